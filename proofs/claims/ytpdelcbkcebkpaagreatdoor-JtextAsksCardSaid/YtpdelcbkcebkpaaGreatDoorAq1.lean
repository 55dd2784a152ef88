/- The texts of this work, put together: K14, K15, K16, K17, K18, K19, K20, K21, K22, K30, K31, K32, Uv, K33. -/
import Derived.Test.YtpdelcbkcebkpaaGreatDoorAq0
import Derived.Maps.Views
import Derived.Maps.OwnOps
import Derived.Recover
import Derived.Laws.Runes
import Derived.Laws.RangeAny
import Derived.Shelf.Unicode.ValidAny
import Derived.Test.YtpdelcbkcebkpaaGreatDoorProg
set_option linter.unusedVariables false
set_option linter.unusedSimpArgs false
namespace Go.Proofs.YtpdelcbkcebkpaaGreatDoor.X
open Go.RowKit Go.Lib Go.Proofs.YtpdelcbkcebkpaaGreatDoorW.PrintWords Go.Proofs.YtpdelcbkcebkpaaGreatDoorW.PrintLast Go.Proofs.YtpdelcbkcebkpaaGreatDoorW.PrintMore
theorem jV_M {W' : World} {B B' N : Nat} {j : J} {v2 v3 : Value} (g2 : Kd.string.R 9 W' B (fun _ => True) v2 j.f2) (g3 : k25.R 25 W' B (fun k => some k ≠ v2.ownBlock) v3 j.f3) (h1 : B' ≤ B) (h2 : N ≤ B) :
  k25.M W' B' (fun b => N ≤ b) j [.int .i64 j.f0, .string j.f1, v2, v3] :=
 k25_mkM W' B' _ j (Kd.R_lower (Kd.R_mono (Kd.R_bound g2) (fun _ hk => Nat.le_trans h2 hk.2.1)) h1) (Kd.R_lower (Kd.R_mono (Kd.R_bound g3) (fun _ hk => Nat.le_trans h2 hk.2.1)) h1)
theorem Kd.M_below {α : Type} {dd : Kd α} {w w1 : World} {B : Nat} {ok : Nat → Prop} {x : α} {cs : List Value} (h : dd.M w B ok x cs) (hb : Below w.heap.size w w1) : dd.M w1 B ok x cs :=
 Kd.M_step h (fun k _ hk => hb.block k hk)
theorem own_form {w : World} {B : Nat} {e : TypeId} {size n : Nat} {v : Value} {xs : List Value} (h : w.ownsRow B e size v n xs) (hn : 0 < n) : ∃ g c, v = .slice (some ⟨g, 0, none⟩) n c := by
 rcases h.2 with ⟨_, h2⟩ | ⟨g, cap, cur, rfl, _⟩
 ·omega
 ·exact ⟨g, cap, rfl⟩
theorem M_slices {w : World} {B : Nat} {ok : Nat → Prop} {j : J} {v2 v3 : Value} (h : k25.M w B ok j [.int .i64 j.f0, .string j.f1, v2, v3]) : ∃ A2 c2 A3 c3, v2 = .slice A2 j.f2.length c2 ∧ v3 = .slice A3 j.f3.length c3 := by
 obtain ⟨u2, u3, e, g2, g3⟩ := k25_openM h
 obtain ⟨A2, c2, e2⟩ := Kd.R_slice g2
 obtain ⟨A3, c3, e3⟩ := Kd.R_slice g3
 have e4 : v2 = u2 := Option.some.inj (congrArg (fun l => l[2]?) e)
 have e5 : v3 = u3 := Option.some.inj (congrArg (fun l => l[3]?) e)
 exact ⟨A2, c2, A3, c3, e4.trans e2, e5.trans e3⟩
theorem LI_final {R V PR PD g1 c1 : Nat} {d : Int} {l : List J} {j : J} {s : ByteArray} {q1 : Nat} {W0 w6 fin : World} {ys : List Value} {a3 : Value}
  (hown : w6.ownsRow W0.heap.size 25 4 (.slice (some ⟨g1, 0, none⟩) (l.length + 1) c1) (l.length + 1) ys)
  (hV6 : w6.heap[V]? = some (.cells #[.int .i64 5, .string ⟨#[]⟩, .slice none 0 0, a3] 25 (0, 0))) (hP6 : w6.heap[PR]? = some (.cells #[ptr R] 105 (0, 0))) (hD6 : w6.heap[PD]? = some (.cells #[.int .i64 d] 3 (0, 0))) (hlen : l.length + 1 ≤ q1)
  (h : fin.heap[V]? = some (.cells #[.int .i64 5, .string ⟨#[]⟩, .slice none 0 0, .slice (some ⟨g1, 0, none⟩) (l.length + 1) c1] 25 (0, 0)) ∧ k25.R 25 fin W0.heap.size (fun k => k ≠ V) (.slice (some ⟨g1, 0, none⟩) (l.length + 1) c1) (l ++ [j]) ∧ On R W0 fin ∧ RdB R s q1 fin ∧ (∀ b, b ≠ V → b ≠ g1 → fin.heap[b]? = w6.heap[b]?)) :
  Inv R s W0 (LI R W0.heap.size V PR PD d) (l ++ [j]) q1 fin := by
 obtain ⟨h1, h2, h3, h4, h5⟩ := h
 obtain ⟨cg, hg⟩ := own_typed hown g1 rfl
 have n1 : PR ≠ V := by rintro rfl; rw [hV6] at hP6; cases hP6
 have n2 : PD ≠ V := by rintro rfl; rw [hV6] at hD6; cases hD6
 have n3 : PR ≠ g1 := by rintro rfl; rw [hg] at hP6; cases hP6
 have n4 : PD ≠ g1 := by rintro rfl; rw [hg] at hD6; cases hD6
 exact ⟨h4, h3, by rw [List.length_append, List.length_singleton]; exact hlen, _, ⟨h1, (h5 PR n1 n3).trans hP6, (h5 PD n2 n4).trans hD6, h2⟩⟩
theorem getz (xs : List Value) (n : Nat) (hx : xs.length = n * 4) (i : Nat) (hi : i < 4) : (xs ++ [Value.int .i64 0, .string ⟨#[]⟩, .slice none 0 0, .slice none 0 0])[n * 4 + i]? = [Value.int .i64 0, .string ⟨#[]⟩, .slice none 0 0, .slice none 0 0][i]? := by
 rw [List.getElem?_append_right (by omega)]
 congr 1
 omega
set_option maxRecDepth 1000000 in
set_option maxHeartbeats 4000000 in
theorem list1_err (R : Nat) (s : ByteArray) (k r V PR PD : Nat) (d p0 : Int) (W0 : World) (hl : s.size ≤ 10000000000) (hR0 : RdB R s p0 W0) (hT : Tabs W0) (hV : W0.heap.size ≤ V) (hPR : PR ≠ R) (hPD : PD ≠ R) (hVal : ValOK R s k r (wrap64 (d + 1)))
  (l : List J) (q : Nat) (o : Out (List J)) (W : World) (hq : q ≤ s.size) (hF : oneI (valueF s.data.toList k r) l q = some o) (h : Inv R s W0 (LI R W0.heap.size V PR PD d) l q W) (e q1 : Nat) (hE : valueF s.data.toList k r q = some (.err e q1)) :
  Calls Tryz.prog 142 #[.pointer (some ⟨V, 0, none⟩), .pointer (some ⟨PR, 0, none⟩), .pointer (some ⟨PD, 0, none⟩)] W (SevEnds R s W0 (LI R W0.heap.size V PR PD d) o) := by
 obtain ⟨hR, hO, hlq, sv, hS⟩ := h
 have HT := am (fun (w : World) (ho : On R W w) => hT.on hR0 (hO.trans ho))
 obtain ⟨A, c, e⟩ := Kd.R_slice hS.items
 subst e
 have HR := am hR
 have HOW := am hO
 have HS := am hS
 have HRB := am hR0.lt
 have HRW := am hR.lt
 have HVal := am hVal
 clear hR hO hS hR0 hT hVal
 have HX := am (show o = .err e q1 by unfold oneI at hF; rw [hE] at hF; injection hF with hF; exact hF.symm)
 have HE := am hE
 clear hF hE
 go_enter Tryz.func142, Tryz.ntmps142
 refine start_ (n := 13) (S := fun w' => w'.cell? ⟨V, 3, none⟩ = some (.slice A l.length c) ∧ w'.cell? ⟨PR, 0, none⟩ = some (ptr R) ∧ w'.cell? ⟨PD, 0, none⟩ = some (.int .i64 d)) (ds := [10, 12]) #[false, false, false, false, false, false, false, false, false, false, false, false, false] (by kernel_rfl) rfl rfl ⟨(blk_cell HS.out.v 3).trans rfl, (blk_cell HS.out.r 0).trans rfl, (blk_cell HS.out.dd 0).trans rfl⟩ (fun hHeld => ?_)
 have HR2 := am (show RdB R s q W.drew from HR.out.drew)
 have HO2 := am (show On R W W.drew from (On.refl R W).drewN 1)
 generalize W.drew = w2 at HR2 HO2 hHeld ⊢
 have HS2 := am (HS.out.on HRB.out hV hPR hPD HO2.out)
 refine pure_ (i := 0) (N := some 3) (v := ?_) (a' := ?_) #[true, false, false, false, false, false, false, false, false, false, false, false, false] rfl rfl (by kernel_rfl) (fun _ _ _ h => h) (Or.inl ⟨by rfl, ?_⟩) ?_ ?_
 rotate_left
 ·intro w'
  go_simp
  with_reducible rfl
 rotate_left
 ·simp only [Act.put, sAx, sZx, sSx, i64_w, i32_w]
  rfl
 refine take_ (i := 1) (N := some 4) (v := ?_) (a' := ?_) #[true, true, false, false, false, false, false, false, false, false, false, false, false] rfl rfl (by kernel_rfl) (fun _ _ _ h => h) (Or.inl ⟨by rfl, ?_⟩) hHeld ?_ ?_
 rotate_left
 ·rintro w' ⟨s0, s1, s2⟩
  go_simp
  with_reducible rfl
 rotate_left
 ·simp only [Act.put, sAx, sZx, sSx, i64_w, i32_w]
  rfl
 refine take_ (i := 2) (N := some 5) (v := ?_) (a' := ?_) #[true, true, true, false, false, false, false, false, false, false, false, false, false] rfl rfl (by kernel_rfl) (fun _ _ _ h => h) (Or.inl ⟨by rfl, ?_⟩) hHeld ?_ ?_
 rotate_left
 ·rintro w' ⟨s0, s1, s2⟩
  go_simp
  with_reducible rfl
 rotate_left
 ·simp only [Act.put, sAx, sZx, sSx, i64_w, i32_w]
  rfl
 refine take_ (i := 3) (N := some 6) (v := ?_) (a' := ?_) #[true, true, true, true, false, false, false, false, false, false, false, false, false] rfl rfl (by kernel_rfl) (fun _ _ _ h => h) (Or.inl ⟨by rfl, ?_⟩) hHeld ?_ ?_
 rotate_left
 ·rintro w' ⟨s0, s1, s2⟩
  go_simp
  with_reducible rfl
 rotate_left
 ·simp only [Act.put, sAx, sZx, sSx, i64_w, i32_w]
  rfl
 refine pure_ (i := 4) (N := some 7) (v := ?_) (a' := ?_) #[true, true, true, true, true, false, false, false, false, false, false, false, false] rfl rfl (by kernel_rfl) (fun _ _ _ h => h) (Or.inl ⟨by rfl, ?_⟩) ?_ ?_
 rotate_left
 ·intro w'
  go_simp
  with_reducible rfl
 rotate_left
 ·simp only [Act.put, sAx, sZx, sSx, i64_w, i32_w]
  rfl
 refine pure_ (i := 6) (N := some 9) (v := ?_) (a' := ?_) #[true, true, true, true, true, false, true, false, false, false, false, false, false] rfl rfl (by kernel_rfl) (fun _ _ _ h => h) (Or.inl ⟨by rfl, ?_⟩) ?_ ?_
 rotate_left
 ·intro w'
  go_simp
  with_reducible rfl
 rotate_left
 ·simp only [Act.put, sAx, sZx, sSx, i64_w, i32_w]
  rfl
 refine two_ (i := 5) (j := 7) (Ni := some 8) (Nj := some 10) #[true, true, true, true, true, true, true, false, false, false, false, false, false] #[true, true, true, true, true, false, true, true, false, false, false, false, false] rfl rfl rfl rfl (by kernel_rfl) (by decide) (by decide) (fun K hK => ?_) (fun K hK => ?_)
 ·refine callP_ Tryz.func56 (by kernel_rfl) rfl #[ptr R, .int .i64 (wrap64 (d + 1))] (by rfl) rfl rfl (by (try simp only [List.map_toArray, List.map_cons, List.map_nil]); first | done | rfl) ?_
  refine (Calls.err_of (HVal.out q _ _ hq HE.out HR2.out (HT.out _ HO2.out)) rfl).mono ?_
  rintro e w3 ⟨rfl, ho⟩
  exact .inr ⟨_, rfl, rfl, SevEnds.no HX.out (HOW.out.trans (HO2.out.trans ho))⟩
 ·refine value_ (w1 := ?_) (v := ?_) (by rfl) rfl ?_ ?_
  rotate_left 2
  ·go_simp
   constructor
   ·rfl
   ·rfl
  have HO3 := am (HO2.out.alloc (Nat.le_of_lt HRW.out) (Obj.cells #[.int .i64 0, .string ⟨#[]⟩, .slice none 0 0, .slice none 0 0] 25))
  have HR3 := am (HR2.out.below (below_alloc (Below.refl _ _) (Obj.cells #[.int .i64 0, .string ⟨#[]⟩, .slice none 0 0, .slice none 0 0] 25)))
  have HS3 := am (HS.out.on HRB.out hV hPR hPD HO3.out)
  refine hK.out _ _ ⟨(blk_cell HS3.out.v 3).trans rfl, (blk_cell HS3.out.r 0).trans rfl, (blk_cell HS3.out.dd 0).trans rfl⟩ (fun hHeld => ?_)
  clear hK K
  refine norm_ (a' := ?_) ?_ ?_
  rotate_left
  ·show Act.put _ (some 10) _ = _
   simp only [Act.put, sAx, sZx, sSx, i64_w, i32_w]
   rfl
  refine one_ (i := 5) (N := some 8) #[true, true, true, true, true, true, true, true, false, false, false, false, false] rfl rfl (by kernel_rfl) (by decide) (fun K hK => ?_)
  refine callP_ Tryz.func56 (by kernel_rfl) rfl #[ptr R, .int .i64 (wrap64 (d + 1))] (by rfl) rfl rfl (by (try simp only [List.map_toArray, List.map_cons, List.map_nil]); first | done | rfl) ?_
  refine (Calls.err_of (HVal.out q _ _ hq HE.out HR3.out (HT.out _ HO3.out)) rfl).mono ?_
  rintro e w3 ⟨rfl, ho⟩
  exact .inr ⟨_, rfl, rfl, SevEnds.no HX.out (HOW.out.trans (HO3.out.trans ho))⟩
set_option maxRecDepth 1000000 in
set_option maxHeartbeats 4000000 in
theorem list1_val (R : Nat) (s : ByteArray) (k r V PR PD : Nat) (d p0 : Int) (W0 : World) (hl : s.size ≤ 10000000000) (hR0 : RdB R s p0 W0) (hT : Tabs W0) (hV : W0.heap.size ≤ V) (hPR : PR ≠ R) (hPD : PD ≠ R) (hVal : ValOK R s k r (wrap64 (d + 1)))
  (l : List J) (q : Nat) (o : Out (List J)) (W : World) (hq : q ≤ s.size) (hF : oneI (valueF s.data.toList k r) l q = some o) (h : Inv R s W0 (LI R W0.heap.size V PR PD d) l q W) (j : J) (q1 : Nat) (hE : valueF s.data.toList k r q = some (.val j q1)) (hq1 : q < q1) :
  Calls Tryz.prog 142 #[.pointer (some ⟨V, 0, none⟩), .pointer (some ⟨PR, 0, none⟩), .pointer (some ⟨PD, 0, none⟩)] W (SevEnds R s W0 (LI R W0.heap.size V PR PD d) o) := by
 obtain ⟨hR, hO, hlq, sv, hS⟩ := h
 have HT := am (fun (w : World) (ho : On R W w) => hT.on hR0 (hO.trans ho))
 obtain ⟨A, c, e⟩ := Kd.R_slice hS.items
 subst e
 have HR := am hR
 have HOW := am hO
 have HS := am hS
 have HRB := am hR0.lt
 have HRW := am hR.lt
 have HVal := am hVal
 clear hR hO hS hR0 hT hVal
 have HX := am (show o = .val (l ++ [j]) q1 by unfold oneI at hF; rw [hE] at hF; injection hF with hF; exact hF.symm)
 have HE := am hE
 clear hF hE
 go_enter Tryz.func142, Tryz.ntmps142
 refine start_ (n := 13) (S := fun w' => w'.cell? ⟨V, 3, none⟩ = some (.slice A l.length c) ∧ w'.cell? ⟨PR, 0, none⟩ = some (ptr R) ∧ w'.cell? ⟨PD, 0, none⟩ = some (.int .i64 d)) (ds := [10, 12]) #[false, false, false, false, false, false, false, false, false, false, false, false, false] (by kernel_rfl) rfl rfl ⟨(blk_cell HS.out.v 3).trans rfl, (blk_cell HS.out.r 0).trans rfl, (blk_cell HS.out.dd 0).trans rfl⟩ (fun hHeld => ?_)
 have HR2 := am (show RdB R s q W.drew from HR.out.drew)
 have HO2 := am (show On R W W.drew from (On.refl R W).drewN 1)
 generalize W.drew = w2 at HR2 HO2 hHeld ⊢
 have HS2 := am (HS.out.on HRB.out hV hPR hPD HO2.out)
 refine pure_ (i := 0) (N := some 3) (v := ?_) (a' := ?_) #[true, false, false, false, false, false, false, false, false, false, false, false, false] rfl rfl (by kernel_rfl) (fun _ _ _ h => h) (Or.inl ⟨by rfl, ?_⟩) ?_ ?_
 rotate_left
 ·intro w'
  go_simp
  with_reducible rfl
 rotate_left
 ·simp only [Act.put, sAx, sZx, sSx, i64_w, i32_w]
  rfl
 refine take_ (i := 1) (N := some 4) (v := ?_) (a' := ?_) #[true, true, false, false, false, false, false, false, false, false, false, false, false] rfl rfl (by kernel_rfl) (fun _ _ _ h => h) (Or.inl ⟨by rfl, ?_⟩) hHeld ?_ ?_
 rotate_left
 ·rintro w' ⟨s0, s1, s2⟩
  go_simp
  with_reducible rfl
 rotate_left
 ·simp only [Act.put, sAx, sZx, sSx, i64_w, i32_w]
  rfl
 refine take_ (i := 2) (N := some 5) (v := ?_) (a' := ?_) #[true, true, true, false, false, false, false, false, false, false, false, false, false] rfl rfl (by kernel_rfl) (fun _ _ _ h => h) (Or.inl ⟨by rfl, ?_⟩) hHeld ?_ ?_
 rotate_left
 ·rintro w' ⟨s0, s1, s2⟩
  go_simp
  with_reducible rfl
 rotate_left
 ·simp only [Act.put, sAx, sZx, sSx, i64_w, i32_w]
  rfl
 refine take_ (i := 3) (N := some 6) (v := ?_) (a' := ?_) #[true, true, true, true, false, false, false, false, false, false, false, false, false] rfl rfl (by kernel_rfl) (fun _ _ _ h => h) (Or.inl ⟨by rfl, ?_⟩) hHeld ?_ ?_
 rotate_left
 ·rintro w' ⟨s0, s1, s2⟩
  go_simp
  with_reducible rfl
 rotate_left
 ·simp only [Act.put, sAx, sZx, sSx, i64_w, i32_w]
  rfl
 refine pure_ (i := 4) (N := some 7) (v := ?_) (a' := ?_) #[true, true, true, true, true, false, false, false, false, false, false, false, false] rfl rfl (by kernel_rfl) (fun _ _ _ h => h) (Or.inl ⟨by rfl, ?_⟩) ?_ ?_
 rotate_left
 ·intro w'
  go_simp
  with_reducible rfl
 rotate_left
 ·simp only [Act.put, sAx, sZx, sSx, i64_w, i32_w]
  rfl
 refine pure_ (i := 6) (N := some 9) (v := ?_) (a' := ?_) #[true, true, true, true, true, false, true, false, false, false, false, false, false] rfl rfl (by kernel_rfl) (fun _ _ _ h => h) (Or.inl ⟨by rfl, ?_⟩) ?_ ?_
 rotate_left
 ·intro w'
  go_simp
  with_reducible rfl
 rotate_left
 ·simp only [Act.put, sAx, sZx, sSx, i64_w, i32_w]
  rfl
 refine join_ (σ := Value × Value × Nat) 5 #[true, true, true, true, true, true, true, true, false, false, false, false, false] (fun s_ => [(8, .agg #[.int .i64 j.f0, .string j.f1, s_.1, s_.2.1]), (10, .slice (some ⟨s_.2.2, 0, none⟩) 1 1)]) (fun s_ w' => RdB R s q1 w' ∧ On R W w' ∧ k25.M w' W0.heap.size (fun b => W.heap.size ≤ b) j [.int .i64 j.f0, .string j.f1, s_.1, s_.2.1] ∧ w'.heap[s_.2.2]? = some (.cells #[.int .i64 0, .string ⟨#[]⟩, .slice none 0 0, .slice none 0 0] 25 (0, 0))) ?_ ?_
 rotate_left
 ·intro hCont
  refine two_ (i := 5) (j := 7) (Ni := some 8) (Nj := some 10) #[true, true, true, true, true, true, true, false, false, false, false, false, false] #[true, true, true, true, true, false, true, true, false, false, false, false, false] rfl rfl rfl rfl (by kernel_rfl) (by decide) (by decide) (fun K hK => ?_) (fun K hK => ?_)
  ·refine callP_ Tryz.func56 (by kernel_rfl) rfl #[ptr R, .int .i64 (wrap64 (d + 1))] (by rfl) rfl rfl (by (try simp only [List.map_toArray, List.map_cons, List.map_nil]); first | done | rfl) ?_
   refine (Calls.val_of (HVal.out q _ _ hq HE.out HR2.out (HT.out _ HO2.out)) rfl).mono ?_
   rintro e w3 ⟨v, rfl, ⟨v2, v3, rfl, g2, g3⟩, hr, ho⟩
   refine .inl ⟨_, rfl, ?_⟩
   have HO3 := am (HO2.out.trans ho)
   have HR3 := am hr
   have HM3 := am (jV_M (B' := W0.heap.size) (N := W.heap.size) g2 g3 (Nat.le_trans HOW.out.size HO2.out.size) HO2.out.size)
   have HS3 := am (HS.out.on HRB.out hV hPR hPD HO3.out)
   clear hr ho g2 g3
   refine hK.out _ _ ⟨(blk_cell HS3.out.v 3).trans rfl, (blk_cell HS3.out.r 0).trans rfl, (blk_cell HS3.out.dd 0).trans rfl⟩ (fun hHeld => ?_)
   clear hK K
   refine norm_ (a' := ?_) ?_ ?_
   rotate_left
   ·show Act.put _ (some 8) _ = _
    simp only [Act.put, sAx, sZx, sSx, i64_w, i32_w]
    rfl
   refine one_ (i := 7) (N := some 10) #[true, true, true, true, true, true, true, true, false, false, false, false, false] rfl rfl (by kernel_rfl) (by decide) (fun K hK => ?_)
   refine value_ (w1 := ?_) (v := ?_) (by rfl) rfl ?_ ?_
   rotate_left 2
   ·go_simp
    constructor
    ·rfl
    ·rfl
   have HO4 := am (HO3.out.alloc (Nat.le_of_lt HRW.out) (Obj.cells #[.int .i64 0, .string ⟨#[]⟩, .slice none 0 0, .slice none 0 0] 25))
   have HR4 := am (HR3.out.below (below_alloc (Below.refl _ _) (Obj.cells #[.int .i64 0, .string ⟨#[]⟩, .slice none 0 0, .slice none 0 0] 25)))
   have HM4 := am (Kd.M_below HM3.out (below_alloc (Below.refl _ _) (Obj.cells #[.int .i64 0, .string ⟨#[]⟩, .slice none 0 0, .slice none 0 0] 25)))
   have HS4 := am (HS.out.on HRB.out hV hPR hPD HO4.out)
   refine hK.out _ _ ⟨(blk_cell HS4.out.v 3).trans rfl, (blk_cell HS4.out.r 0).trans rfl, (blk_cell HS4.out.dd 0).trans rfl⟩ (fun hHeld => ?_)
   clear hK K
   refine norm_ (a' := ?_) ?_ ?_
   rotate_left
   ·show Act.put _ (some 10) _ = _
    simp only [Act.put, sAx, sZx, sSx, i64_w, i32_w]
    rfl
   exact norm_ (by simp only [putAll, Act.put, sAx, sZx, sSx]) (hCont (v2, v3, w3.heap.size) _ ⟨HR4.out, HO4.out, HM4.out, heap_alloc_new _ _⟩)
  ·refine value_ (w1 := ?_) (v := ?_) (by rfl) rfl ?_ ?_
   rotate_left 2
   ·go_simp
    constructor
    ·rfl
    ·rfl
   have HO3 := am (HO2.out.alloc (Nat.le_of_lt HRW.out) (Obj.cells #[.int .i64 0, .string ⟨#[]⟩, .slice none 0 0, .slice none 0 0] 25))
   have HR3 := am (HR2.out.below (below_alloc (Below.refl _ _) (Obj.cells #[.int .i64 0, .string ⟨#[]⟩, .slice none 0 0, .slice none 0 0] 25)))
   have HG3 := am (heap_alloc_new w2 (Obj.cells #[.int .i64 0, .string ⟨#[]⟩, .slice none 0 0, .slice none 0 0] 25))
   have HS3 := am (HS.out.on HRB.out hV hPR hPD HO3.out)
   refine hK.out _ _ ⟨(blk_cell HS3.out.v 3).trans rfl, (blk_cell HS3.out.r 0).trans rfl, (blk_cell HS3.out.dd 0).trans rfl⟩ (fun hHeld => ?_)
   clear hK K
   refine norm_ (a' := ?_) ?_ ?_
   rotate_left
   ·show Act.put _ (some 10) _ = _
    simp only [Act.put, sAx, sZx, sSx, i64_w, i32_w]
    rfl
   refine one_ (i := 5) (N := some 8) #[true, true, true, true, true, true, true, true, false, false, false, false, false] rfl rfl (by kernel_rfl) (by decide) (fun K hK => ?_)
   refine callP_ Tryz.func56 (by kernel_rfl) rfl #[ptr R, .int .i64 (wrap64 (d + 1))] (by rfl) rfl rfl (by (try simp only [List.map_toArray, List.map_cons, List.map_nil]); first | done | rfl) ?_
   refine (Calls.val_of (HVal.out q _ _ hq HE.out HR3.out (HT.out _ HO3.out)) rfl).mono ?_
   rintro e w4 ⟨v, rfl, ⟨v2, v3, rfl, g2, g3⟩, hr, ho⟩
   refine .inl ⟨_, rfl, ?_⟩
   have HO4 := am (HO3.out.trans ho)
   have HR4 := am hr
   have HM4 := am (jV_M (B' := W0.heap.size) (N := W.heap.size) g2 g3 (Nat.le_trans HOW.out.size HO3.out.size) HO3.out.size)
   have HS4 := am (HS.out.on HRB.out hV hPR hPD HO4.out)
   have HG4 := am (blk_on HG3.out (by have := HO2.out.size; have := HRW.out; omega) ho)
   clear hr ho g2 g3
   refine hK.out _ _ ⟨(blk_cell HS4.out.v 3).trans rfl, (blk_cell HS4.out.r 0).trans rfl, (blk_cell HS4.out.dd 0).trans rfl⟩ (fun hHeld => ?_)
   clear hK K
   refine norm_ (a' := ?_) ?_ ?_
   rotate_left
   ·show Act.put _ (some 8) _ = _
    simp only [Act.put, sAx, sZx, sSx, i64_w, i32_w]
    rfl
   exact norm_ (by simp only [putAll, Act.put, sAx, sZx, sSx]) (hCont (v2, v3, w2.heap.size) _ ⟨HR4.out, HO4.out, HM4.out, HG4.out⟩)
 ·rintro ⟨v2, v3, g⟩ w5 ⟨hR5, hO5, hM5, hG5⟩
  dsimp only at hM5 hG5
  obtain ⟨A2, c2, A3, c3, e2, e3⟩ := M_slices hM5
  subst e2 e3
  simp only [putAll, Act.put, sAx, sZx, sSx]
  have HR5 := am hR5
  have HO5 := am hO5
  have HM5 := am hM5
  have HG5 := am hG5
  have HS5 := am (HS.out.on HRB.out hV hPR hPD hO5)
  clear hR5 hO5 hM5 hG5 HR2 HO2 HS2 hHeld
  have hI5 := HS5.out.items
  obtain ⟨inner, hown, hrep⟩ := hI5.2
  have HIN := am (show w5.ownsRow W0.heap.size 25 4 (.slice A l.length c) l.length inner from hown)
  have HRP := am hrep
  have hil : inner.length = l.length * 4 := hrep.1
  have HI5 := am hI5
  clear hown hrep hI5
  refine one_ (i := 8) (N := some 11) #[true, true, true, true, true, true, true, true, true, false, false, false, false] rfl rfl (by kernel_rfl) (by decide) (fun K hK => ?_)
  refine app0_step (B := W0.heap.size) rfl (.tmp 4) (.tmp 10) 23 25 (.agg #[(.int .i64 0), (.string ⟨#[]⟩), (.slice none 0 0), (.slice none 0 0)]) 4 72 rfl Tryz.underlying23 info25 rfl (by decide) (by decide) (.slice A l.length c) l.length inner [.int .i64 0, .string ⟨#[]⟩, .slice none 0 0, .slice none 0 0] g rfl rfl rfl (by intro u hu; simp only [List.mem_cons, List.not_mem_nil, or_false] at hu; rcases hu with rfl | rfl | rfl | rfl <;> rfl) HG5.out HIN.out (Nat.le_trans HOW.out.size HO5.out.size) (by omega) ?_
  intro v1 w6 hown1 hg hat
  obtain ⟨g1, c1, e1⟩ := own_form hown1 (by omega)
  subst e1
  have HON := am hown1
  have HAT := am hat
  have HGR := am hg
  have HV6 := am (blk_grown (o := .cells #[.int .i64 5, .string ⟨#[]⟩, .slice none 0 0, .slice A l.length c] 25 (0, 0)) HS5.out.v hg (Kd.R_away HI5.out (fun _ hk => hk)))
  have HP6 := am (blk_grown (o := .cells #[ptr R] 105 (0, 0)) HS5.out.r hg (Kd.R_ne HI5.out HS5.out.r (by decide)))
  have HD6 := am (blk_grown (o := .cells #[.int .i64 d] 3 (0, 0)) HS5.out.dd hg (Kd.R_ne HI5.out HS5.out.dd (by decide)))
  have HO6 := am (HOW.out.trans HO5.out |>.grownRow hg (fun b hb => Kd.R_base HI5.out b hb) (Nat.le_of_lt HRB.out))
  have HR6 := am (show RdB R s q1 w6 from (hg.block R HR5.out.lt (fun hh => by have := Kd.R_base HI5.out R hh.symm; have := HRB.out; omega)).trans HR5.out)
  have hV1 : g1 ≠ V := by
   intro hgv
   rcases HAT.out with ha | ha
   ·exact Kd.R_away HI5.out (fun _ hk => hk) (hgv ▸ ha)
   ·have ha : some g1 = some w5.heap.size := ha
    injection ha with ha
    have := lt_of_block HS5.out.v
    omega
  have hgR : g1 ≠ R := by
   have h1 := own_base hown1 g1 rfl
   have := HRB.out
   omega
  have z0 : w6.cell? ⟨g1, l.length * 4, none⟩ = some (.int .i64 0) := (hown1.cellAt (l.length * 4) (by omega)).trans (getz inner l.length hil 0 (by omega))
  have z1 : w6.cell? ⟨g1, l.length * 4 + 1, none⟩ = some (.string ⟨#[]⟩) := (hown1.cellAt (l.length * 4 + 1) (by omega)).trans (getz inner l.length hil 1 (by omega))
  have z2 : w6.cell? ⟨g1, l.length * 4 + 2, none⟩ = some (.slice none 0 0) := (hown1.cellAt (l.length * 4 + 2) (by omega)).trans (getz inner l.length hil 2 (by omega))
  have z3 : w6.cell? ⟨g1, l.length * 4 + 3, none⟩ = some (.slice none 0 0) := (hown1.cellAt (l.length * 4 + 3) (by omega)).trans (getz inner l.length hil 3 (by omega))
  have y0 := hown1.frozenAt (l.length * 4)
  have y1 := hown1.frozenAt (l.length * 4 + 1)
  have y2 := hown1.frozenAt (l.length * 4 + 2)
  have y3 := hown1.frozenAt (l.length * 4 + 3)
  have x3 : w6.cell? ⟨V, 3, none⟩ = some (.slice A l.length c) := (blk_cell HV6.out 3).trans rfl
  have hV2 : V ≠ g1 := Ne.symm hV1
  have xf := blk_free HV6.out 3
  clear hown1 hg hat
  refine hK.out _ _ ⟨(blk_cell HV6.out 3).trans rfl, (blk_cell HP6.out 0).trans rfl, (blk_cell HD6.out 0).trans rfl⟩ (fun hHeld => ?_)
  clear hK K
  refine norm_ (a' := ?_) ?_ ?_
  rotate_left
  ·show Act.put _ (some 11) _ = _
   simp only [Act.put, sAx, sZx, sSx, i64_w, i32_w]
   rfl
  have b0 : (0 : Int) ≤ (l.length : Int) := by omega
  have b1 : (l.length : Int) < ((l.length + 1 : Nat) : Int) := by omega
  have b2 : (l.length : Int) < (l.length : Int) + 1 := by omega
  refine pure_ (i := 9) (N := some 12) (v := ?_) (a' := ?_) #[true, true, true, true, true, true, true, true, true, true, false, false, false] rfl rfl (by kernel_rfl) (fun _ _ _ h => h) (Or.inl ⟨by rfl, ?_⟩) ?_ ?_
  rotate_left
  ·intro w'
   go_simp
   with_reducible rfl
  rotate_left
  ·simp only [Act.put, sAx, sZx, sSx, i64_w, i32_w]
   rfl
  refine pure_ (i := 11) (N := some 13) (v := ?_) (a' := ?_) #[true, true, true, true, true, true, true, true, true, true, false, true, false] rfl rfl (by kernel_rfl) (fun _ _ _ h => h) (Or.inl ⟨by rfl, ?_⟩) ?_ ?_
  rotate_left
  ·intro w'
   go_simp
   with_reducible rfl
  rotate_left
  ·simp only [Act.put, sAx, sZx, sSx, i64_w, i32_w]
   rfl
  have FIN := am (items_fin (j := j) (ok := fun k => k ≠ V) (fun _ hk => hk) rfl HRB.out hV (lt_of_block HS.out.v) HS.out.items (fun k hk => by have := lt_of_block HS.out.v; omega) HO5.out HRP.out hil HI5.out.1 HM5.out HON.out HGR.out HAT.out HV6.out HO6.out HR6.out hV1)
  refine twoL_ (i := 10) (j := 12) (Ni := none) (Nj := none) #[true, true, true, true, true, true, true, true, true, true, true, true, false] #[true, true, true, true, true, true, true, true, true, true, false, true, true] rfl rfl rfl rfl (by kernel_rfl) (by decide) (by decide) (fun K hK => ?_) (fun K hK => ?_)
  ·refine skip_ (w1 := ?_) (by rfl) rfl ?_ ?_
   rotate_left
   ·go_simp
    rfl
   refine hK.out _ _ ?_
   clear hK K
   refine last_ (i := 12) (N := none) #[true, true, true, true, true, true, true, true, true, true, true, true, true] rfl rfl (by kernel_rfl) (by decide) (fun K hK => ?_)
   refine skip_ (w1 := ?_) (by rfl) rfl ?_ ?_
   rotate_left
   ·go_simp
    rfl
   refine hK.out _ _ ?_
   clear hK K
   refine done_ (by kernel_rfl) ?_
   try go_wp2
   go_end0
   exact SevEnds.ok HX.out (LI_final HON.out HV6.out HP6.out HD6.out (by omega) FIN.out)
  ·refine skip_ (w1 := ?_) (by rfl) rfl ?_ ?_
   rotate_left
   ·go_simp
    rfl
   refine hK.out _ _ ?_
   clear hK K
   refine last_ (i := 10) (N := none) #[true, true, true, true, true, true, true, true, true, true, true, true, true] rfl rfl (by kernel_rfl) (by decide) (fun K hK => ?_)
   refine skip_ (w1 := ?_) (by rfl) rfl ?_ ?_
   rotate_left
   ·go_simp
    rfl
   refine hK.out _ _ ?_
   clear hK K
   refine done_ (by kernel_rfl) ?_
   try go_wp2
   go_end0
   have hcm := set4W_comm w6 V g1 l.length (.slice (some ⟨g1, 0, none⟩) (l.length + 1) c1) (.int .i64 j.f0) (.string j.f1) (.slice A2 j.f2.length c2) (.slice A3 j.f3.length c3) hV1
   have hfin := LI_final HON.out HV6.out HP6.out HD6.out (by omega) FIN.out
   rw [← hcm] at hfin
   exact SevEnds.ok HX.out hfin
theorem list1_calls (R : Nat) (s : ByteArray) (k r V PR PD : Nat) (d p0 : Int) (W0 : World) (hl : s.size ≤ 10000000000) (hR0 : RdB R s p0 W0) (hT : Tabs W0) (hV : W0.heap.size ≤ V) (hPR : PR ≠ R) (hPD : PD ≠ R) (hVal : ValOK R s k r (wrap64 (d + 1)))
  (l : List J) (q : Nat) (o : Out (List J)) (W : World) (hq : q ≤ s.size) (hF : oneI (valueF s.data.toList k r) l q = some o) (h : Inv R s W0 (LI R W0.heap.size V PR PD d) l q W) :
  Calls Tryz.prog 142 #[.pointer (some ⟨V, 0, none⟩), .pointer (some ⟨PR, 0, none⟩), .pointer (some ⟨PD, 0, none⟩)] W (SevEnds R s W0 (LI R W0.heap.size V PR PD d) o) := by
 obtain ⟨o1, h1, _⟩ := omap_some _ _ _ hF
 cases o1 with
 | err e q1 => exact list1_err R s k r V PR PD d p0 W0 hl hR0 hT hV hPR hPD hVal l q o W hq hF h e q1 h1
 | val j q1 => exact list1_val R s k r V PR PD d p0 W0 hl hR0 hT hV hPR hPD hVal l q o W hq hF h j q1 h1 (valueF_val _ _ _ _ _ _ (by rw [size_data]; exact hq) h1).1
abbrev zJ : Obj := Obj.cells #[.int .i64 0, .string ⟨#[]⟩, .slice none 0 0, .slice none 0 0] 25
abbrev lW0 (R : Nat) (d : Int) (W : World) : World := ((W.alloc (Obj.cells #[ptr R] 105)).alloc (Obj.cells #[.int .i64 d] 3)).alloc zJ
theorem lW0_size (R : Nat) (d : Int) (W : World) : (lW0 R d W).heap.size = W.heap.size + 1 + 1 + 1 := by simp [lW0]
theorem lW0_below (R : Nat) (d : Int) (W : World) : Below W.heap.size W (lW0 R d W) := below_alloc (below_alloc (below_alloc (Below.refl _ _) _) _) _
theorem Below.alloc_at {W : World} {b : Nat} {o o' : Obj} (h : W.heap[b]? = some o) : (W.alloc o').heap[b]? = some o :=
 ((below_alloc (Below.refl W.heap.size W) o').block b (lt_of_block h)).trans h
theorem lW0_boxes (R : Nat) (d : Int) (W : World) : (lW0 R d W).heap[W.heap.size]? = some (.cells #[ptr R] 105 (0, 0)) ∧ (lW0 R d W).heap[W.heap.size + 1]? = some (.cells #[.int .i64 d] 3 (0, 0)) ∧ (lW0 R d W).heap[W.heap.size + 1 + 1]? = some (.cells #[.int .i64 0, .string ⟨#[]⟩, .slice none 0 0, .slice none 0 0] 25 (0, 0)) := by
 have h1 := heap_alloc_new W (Obj.cells #[ptr R] 105)
 have h2 := heap_alloc_new (W.alloc (Obj.cells #[ptr R] 105)) (Obj.cells #[.int .i64 d] 3)
 have h3 := heap_alloc_new ((W.alloc (Obj.cells #[ptr R] 105)).alloc (Obj.cells #[.int .i64 d] 3)) zJ
 have e2 : (W.alloc (Obj.cells #[ptr R] 105)).heap.size = W.heap.size + 1 := by simp
 have e3 : ((W.alloc (Obj.cells #[ptr R] 105)).alloc (Obj.cells #[.int .i64 d] 3)).heap.size = W.heap.size + 1 + 1 := by simp
 rw [e2] at h2
 rw [e3] at h3
 exact ⟨Below.alloc_at (Below.alloc_at h1), Below.alloc_at h2, h3⟩
theorem LI_hI {R V PR PD : Nat} {d : Int} {W0 : World} (hR : R < W0.heap.size) (hV : W0.heap.size ≤ V) (hPR : PR ≠ R) (hPD : PD ≠ R) : ∀ a q q' W W', q ≤ q' → LI R W0.heap.size V PR PD d a q W → On R W W' → LI R W0.heap.size V PR PD d a q' W' :=
 fun _ _ _ _ _ hq h hO => LI.on hq h hR hV hPR hPD hO
def listEnd (R : Nat) (s : ByteArray) (W : World) (o : Out (List J)) (x : Ending) (W' : World) : Prop :=
 On R W W' ∧ match o with
  | .val a q => x = .returned (.tuple #[]) ∧ RdB R s q W' ∧ ∃ sv, W'.heap[W.heap.size + 1 + 1 + 1]? = some (.cells #[.int .i64 5, .string ⟨#[]⟩, .slice none 0 0, sv] 25 (0, 0)) ∧ k25.R 25 W' W.heap.size (fun k => k ≠ W.heap.size + 1 + 1 + 1 ∧ k ≠ W.heap.size + 1 + 1) sv a ∧
    W'.heap[W.heap.size + 1 + 1]? = some (.cells #[.int .i64 0, .string ⟨#[]⟩, .slice none 0 0, .slice none 0 0] 25 (0, 0))
  | .err e q => x = pan e q
theorem list_sev (R : Nat) (s : ByteArray) (k r : Nat) (d : Int) (p : Nat) (W : World) (hl : s.size ≤ 10000000000) (h : RdB R s p W) (hT : Tabs W) (hp : p < s.size) (hVal : ValOK R s k r (wrap64 (d + 1)))
  (o : Out (List J)) (hF : sevF (oneI (valueF s.data.toList k r)) s.data.toList 93 k [] p = some o) :
  Calls Tryz.prog 141 #[ptr R, .int .u8 93, .func (.func 142) #[] #[.pointer (some ⟨W.heap.size + 1 + 1 + 1, 0, none⟩), .pointer (some ⟨W.heap.size, 0, none⟩), .pointer (some ⟨W.heap.size + 1, 0, none⟩)]]
   ((lW0 R d W).alloc (Obj.cells #[.int .i64 5, .string ⟨#[]⟩, .slice none 0 0, .slice none 0 0] 25))
   (listEnd R s W o) := by
 have hR := h.lt
 have hb0 := lW0_below R d W
 have hs0 := lW0_size R d W
 obtain ⟨b1, b2, b3⟩ := lW0_boxes R d W
 have hO0 : On R W (lW0 R d W) := On.of_below (Nat.le_of_lt hR) hb0
 have hR0 : RdB R s p (lW0 R d W) := h.below hb0
 have hT0 : Tabs (lW0 R d W) := hT.on h hO0
 generalize hW0 : lW0 R d W = W0 at *
 have hb1 : Below W0.heap.size W0 (W0.alloc (Obj.cells #[.int .i64 5, .string ⟨#[]⟩, .slice none 0 0, .slice none 0 0] 25)) := below_alloc (Below.refl _ _) _
 have hO1 : On R W0 (W0.alloc (Obj.cells #[.int .i64 5, .string ⟨#[]⟩, .slice none 0 0, .slice none 0 0] 25)) := On.of_below (by omega) hb1
 have hV := heap_alloc_new W0 (Obj.cells #[.int .i64 5, .string ⟨#[]⟩, .slice none 0 0, .slice none 0 0] 25)
 rw [hs0] at hV
 have hVB : W0.heap.size ≤ W.heap.size + 1 + 1 + 1 := by omega
 have key := sevList_calls R s 93 (oneI (valueF s.data.toList k r)) (LI R W0.heap.size (W.heap.size + 1 + 1 + 1) W.heap.size (W.heap.size + 1) d) W0 (.pointer (some ⟨W.heap.size + 1 + 1 + 1, 0, none⟩)) (.pointer (some ⟨W.heap.size, 0, none⟩)) (.pointer (some ⟨W.heap.size + 1, 0, none⟩)) hl
  (LI_hI (by omega) hVB (by omega) (by omega))
  (fun a q a' q' hq h1 => by
   have := oneI_val s.data.toList _ (fun q j q' hq hv => valueF_val _ _ _ _ _ _ hq hv) a q a' q' (by rw [size_data]; exact hq) h1
   rw [size_data] at this
   exact this.2)
  (fun a q o W hq h1 h2 => list1_calls R s k r _ _ _ d p W0 hl hR0 hT0 hVB (by omega) (by omega) hVal a q o W hq h1 h2)
  k [] p o hp _ ⟨hR0.below hb1, hO1, Nat.zero_le _, _, ⟨hV, Below.alloc_at b1, Below.alloc_at b2, Kd.R_nil _ _ _ _ _⟩⟩ hF
 refine key.mono fun x W' hh => ?_
 cases o with
 | val a q =>
  obtain ⟨hx, h1, h2, _, sv, h3⟩ := hh
  refine ⟨hO0.trans h2, hx, h1, sv, h3.v, Kd.R_lower (Kd.R_mono (Kd.R_bound h3.items) (fun k hk => ⟨hk.1, by have := hk.2.1; omega⟩)) (by omega), blk_on b3 (by omega) h2⟩
 | err e q => exact ⟨hO0.trans hh.2, hh.1⟩
theorem blk4 {w : World} {g : Nat} {z0 z1 z2 z3 : Value} (h : w.heap[g]? = some (.cells #[z0, z1, z2, z3] 25 (0, 0))) (c0 c1 c2 c3 : Value) :
  ((((w.setCell ⟨g, 0, none⟩ c0).setCell ⟨g, 1, none⟩ c1).setCell ⟨g, 2, none⟩ c2).setCell ⟨g, 3, none⟩ c3).heap[g]? = some (.cells #[c0, c1, c2, c3] 25 (0, 0)) :=
 blk_put (cs := #[c0, c1, c2, z3]) (blk_put (cs := #[c0, c1, z2, z3]) (blk_put (cs := #[c0, z1, z2, z3]) (blk_put (cs := #[z0, z1, z2, z3]) h 0 c0 rfl) 1 c1 rfl) 2 c2 rfl) 3 c3 rfl
theorem set4_ends {R b : Nat} {s : ByteArray} {q : Int} {W w1 : World} (hR : RdB R s q w1) (hO : On R W w1) (hRW : R < W.heap.size) (hb : W.heap.size ≤ b) (c0 c1 c2 c3 : Value) :
  RdB R s q ((((w1.setCell ⟨b, 0, none⟩ c0).setCell ⟨b, 1, none⟩ c1).setCell ⟨b, 2, none⟩ c2).setCell ⟨b, 3, none⟩ c3) ∧ On R W ((((w1.setCell ⟨b, 0, none⟩ c0).setCell ⟨b, 1, none⟩ c1).setCell ⟨b, 2, none⟩ c2).setCell ⟨b, 3, none⟩ c3) := by
 have hne : R ≠ b := by omega
 have hle := Nat.le_of_lt hRW
 exact ⟨((Below.heap_setCell _ _ _ _ hne).trans ((Below.heap_setCell _ _ _ _ hne).trans ((Below.heap_setCell _ _ _ _ hne).trans (Below.heap_setCell _ _ _ _ hne)))).trans hR, (((hO.new b 0 _ hb hle).new b 1 _ hb hle).new b 2 _ hb hle).new b 3 _ hb hle⟩
set_option maxRecDepth 1000000 in
set_option maxHeartbeats 4000000 in
theorem list_calls (R : Nat) (s : ByteArray) (k r : Nat) (d : Int) (p : Nat) (W : World) (hl : s.size ≤ 10000000000) (h : RdB R s p W) (hT : Tabs W) (hp : p < s.size) (hVal : ValOK R s k r (wrap64 (d + 1)))
  (o : Out (List J)) (hF : sevF (oneI (valueF s.data.toList k r)) s.data.toList 93 k [] p = some o) :
  Calls Tryz.prog 108 #[ptr R, .int .i64 d] W (Ends R s W (o.map fun a => (⟨5, bsJ [], [], a⟩ : J)) (jV W.heap.size)) := by
 have key := am (list_sev R s k r d p W hl h hT hp hVal o hF)
 have hRW := h.lt
 clear hT hF hVal h
 cases o with
 | err e q =>
  go_enter Tryz.func108, Tryz.ntmps108
  go_wp2_with (go_at_call 141; (with_reducible refine (key.out).mono ?_); rintro e w1 ⟨ho, rfl⟩; have HO := am ho; clear ho)
  exact ⟨rfl, Ends.no rfl HO.out⟩
 | val a q =>
  go_enter Tryz.func108, Tryz.ntmps108
  go_wp2_with (go_at_call 141; (with_reducible refine (key.out).mono ?_); rintro e w1 ⟨ho, rfl, hr, sv, hv, hi, hb⟩; have HO := am ho; have HR := am hr; have HI := am hi; have HB := am hb; have HV := am hv; obtain ⟨A, c, e3⟩ := Kd.R_slice hi; subst e3; have v0 : w1.cell? ⟨W.heap.size + 1 + 1 + 1, 0, none⟩ = some (.int .i64 5) := (blk_cell hv 0).trans rfl; have v1 : w1.cell? ⟨W.heap.size + 1 + 1 + 1, 1, none⟩ = some (.string ⟨#[]⟩) := (blk_cell hv 1).trans rfl; have v2 : w1.cell? ⟨W.heap.size + 1 + 1 + 1, 2, none⟩ = some (.slice none 0 0) := (blk_cell hv 2).trans rfl; have v3 : w1.cell? ⟨W.heap.size + 1 + 1 + 1, 3, none⟩ = some (.slice A a.length c) := (blk_cell hv 3).trans rfl; have r0 : w1.cell? ⟨W.heap.size + 1 + 1, 0, none⟩ = some (.int .i64 0) := (blk_cell hb 0).trans rfl; have r1 : w1.cell? ⟨W.heap.size + 1 + 1, 1, none⟩ = some (.string ⟨#[]⟩) := (blk_cell hb 1).trans rfl; have r2 : w1.cell? ⟨W.heap.size + 1 + 1, 2, none⟩ = some (.slice none 0 0) := (blk_cell hb 2).trans rfl; have r3 : w1.cell? ⟨W.heap.size + 1 + 1, 3, none⟩ = some (.slice none 0 0) := (blk_cell hb 3).trans rfl; have f0 := blk_free hb 0; have f1 := blk_free hb 1; have f2 := blk_free hb 2; have f3 := blk_free hb 3; clear ho hr hv hi hb)
  refine bodyPost_ret (results_cell_row rfl _ _ (W.heap.size + 1 + 1) 25 #[.int .i64 5, .string ⟨#[]⟩, .slice none 0 0, .slice A a.length c] (0, 0) _ rfl (blk4 HB.out _ _ _ _) Tryz.underlying25 rfl (by kernel_rfl)) rfl ?_
  have hR1 := set4_ends (b := W.heap.size + 1 + 1) HR.out HO.out hRW (by omega) (.int .i64 5) (.string ⟨#[]⟩) (.slice none 0 0) (.slice A a.length c)
  refine Ends.ok rfl ⟨.slice none 0 0, .slice A a.length c, rfl, Kd.R_nil _ _ _ _ _, ?_⟩ hR1.1 hR1.2
  exact Kd.R_mono (Kd.R_far (p := ⟨W.heap.size + 1 + 1, 3, none⟩) (Kd.R_far (p := ⟨W.heap.size + 1 + 1, 2, none⟩) (Kd.R_far (p := ⟨W.heap.size + 1 + 1, 1, none⟩) (Kd.R_far (p := ⟨W.heap.size + 1 + 1, 0, none⟩) HI.out (fun _ hk => hk.2) _) (fun _ hk => hk.2) _) (fun _ hk => hk.2) _) (fun _ hk => hk.2) _) (fun k _ hh => by cases hh)
end Go.Proofs.YtpdelcbkcebkpaaGreatDoor.X
namespace Go.Proofs.YtpdelcbkcebkpaaGreatDoor.X
open Go.RowKit Go.Lib Go.Maps Go.Proofs.YtpdelcbkcebkpaaGreatDoorW.PrintWords Go.Proofs.YtpdelcbkcebkpaaGreatDoorW.PrintLast Go.Proofs.YtpdelcbkcebkpaaGreatDoorW.PrintMore
theorem key9 : Keyed Tryz.prog 9 := string_keyed Tryz.underlying9
theorem zero3 (w : World) : (zeroValue 3).run Tryz.prog w = .ok (.int .i64 0) w := by kernel_rfl
def Seen (W : World) (M : Nat) (names : List ByteArray) : Prop :=
 ∃ D : DataW Unit, IsMap D ∧ W.ownsMap Tryz.prog 9 (plainElem Tryz.prog 3) M names.length D ∧ ∀ b : List UInt8, D.atKey (.string b) (.lit (.int .i64 0)) = .lit (.int .i64 (if b ∈ names.map (fun n => n.data.toList) then 1 else 0))
theorem ownsMap_move {w w' : World} {b n : Nat} {D : DataW Unit} (h : w.ownsMap Tryz.prog 9 (plainElem Tryz.prog 3) b n D) (hm : w'.heap[b]? = w.heap[b]?) : w'.ownsMap Tryz.prog 9 (plainElem Tryz.prog 3) b n D := by
 obtain ⟨es, clock, hb, F, hs, hD⟩ := h
 exact ⟨es, clock, hm.trans hb, F, hs, hD⟩
theorem Seen.move {W W' : World} {M : Nat} {names : List ByteArray} (h : Seen W M names) (hm : W'.heap[M]? = W.heap[M]?) : Seen W' M names := by
 obtain ⟨D, h1, h2, h3⟩ := h
 exact ⟨D, h1, ownsMap_move h2 hm, h3⟩
theorem Seen.blk {W : World} {M : Nat} {names : List ByteArray} (h : Seen W M names) : ∃ es c, W.heap[M]? = some (.map es c) := by
 obtain ⟨D, h1, ⟨es, clock, hb, _⟩, h3⟩ := h
 exact ⟨es, clock, hb⟩
theorem Seen.lt {W : World} {M : Nat} {names : List ByteArray} (h : Seen W M names) : M < W.heap.size := by
 obtain ⟨es, c, hb⟩ := h.blk
 exact lt_of_block hb
theorem Seen.ne {W : World} {M g : Nat} {names : List ByteArray} {cells : Array Value} {t : TypeId} {f : Nat × Nat} (h : Seen W M names) (hg : W.heap[g]? = some (.cells cells t f)) : g ≠ M := by
 obtain ⟨es, c, hb⟩ := h.blk
 rintro rfl
 rw [hb] at hg
 cases hg
theorem Seen.made (W : World) : Seen (W.alloc (.map #[] 0)) W.heap.size [] :=
 ⟨.map [], ⟨[], rfl⟩, World.ownsMap_made _ _ _ _, fun b => by simp [DataW.atKey]⟩
structure OSt (R B V PR PD PM M : Nat) (d : Int) (ns : List ByteArray) (a : List ByteArray × List J) (sn sv : Value) (W : World) : Prop where
 v : W.heap[V]? = some (.cells #[.int .i64 6, .string ⟨#[]⟩, sn, sv] 25 (0, 0))
 r : W.heap[PR]? = some (.cells #[ptr R] 105 (0, 0))
 dd : W.heap[PD]? = some (.cells #[.int .i64 d] 3 (0, 0))
 pm : W.heap[PM]? = some (.cells #[.map (some M)] 166 (0, 0))
 seen : Seen W M ns
 names : Kd.string.R 9 W B (fun k => k ≠ V) sn a.1
 items : k25.R 25 W B (fun k => k ≠ V ∧ some k ≠ sn.ownBlock) sv a.2
structure OGeo (R B V PR PD PM M : Nat) : Prop where
 rb : R < B
 v : B ≤ V
 r : PR ≠ R
 dd : PD ≠ R
 pm : PM ≠ R
 m : B ≤ M
def OI (R B V PR PD PM M : Nat) (d : Int) (a : List ByteArray × List J) (q : Nat) (W : World) : Prop := a.2.length ≤ q ∧ a.1.length ≤ q ∧ ∃ sn sv, OSt R B V PR PD PM M d a.1 a sn sv W
theorem OSt.on {R B V PR PD PM M : Nat} {d : Int} {ns : List ByteArray} {a : List ByteArray × List J} {sn sv : Value} {W W' : World} (h : OSt R B V PR PD PM M d ns a sn sv W) (g : OGeo R B V PR PD PM M) (hO : On R W W') : OSt R B V PR PD PM M d ns a sn sv W' :=
 ⟨blk_on h.v (by have := g.v; have := g.rb; omega) hO, blk_on h.r g.r hO, blk_on h.dd g.dd hO, blk_on h.pm g.pm hO, h.seen.move (hO.kept M (by have := g.m; have := g.rb; omega) h.seen.lt), R_on h.names g.rb hO, R_on h.items g.rb hO⟩
theorem OI.on {R B V PR PD PM M : Nat} {d : Int} {a : List ByteArray × List J} {q q' : Nat} {W W' : World} (hq : q ≤ q') (h : OI R B V PR PD PM M d a q W) (g : OGeo R B V PR PD PM M) (hO : On R W W') : OI R B V PR PD PM M d a q' W' := by
 obtain ⟨h0, h1, sn, sv, h2⟩ := h
 exact ⟨by omega, by omega, sn, sv, h2.on g hO⟩
theorem R_map {α : Type} {dd : Kd α} {e B M : Nat} {W W' : World} {ok : Nat → Prop} {v : Value} {l : List α} {names : List ByteArray} (h : dd.R e W B ok v l) (hs : Seen W M names) (hg : W.grownBy W' (some M)) : dd.R e W' B ok v l :=
 Kd.R_mono (Kd.R_move (Kd.R_bound h) (fun k hk => by
  obtain ⟨_, _, hlt, q, _, cells, hc⟩ := hk
  exact hg.block k hlt (fun hh => by injection hh with hh; exact hs.ne hc hh))) (fun _ hk => hk.1)
theorem blk_grownM {W W' : World} {M g : Nat} {names : List ByteArray} {cells : Array Value} {t : TypeId} {f : Nat × Nat} (h : W.heap[g]? = some (.cells cells t f)) (hs : Seen W M names) (hg : W.grownBy W' (some M)) : W'.heap[g]? = some (.cells cells t f) :=
 (hg.block g (lt_of_block h) (fun hh => by injection hh with hh; exact hs.ne h hh)).trans h
theorem string_isKey (b : List UInt8) : WideAt.IsKeyLit (.string b) := by
 first | exact trivial | (unfold WideAt.IsKeyLit; simp) | (simp [WideAt.IsKeyLit])
theorem seen_put {W W' : World} {M : Nat} {names : List ByteArray} {D : DataW Unit} (nm : ByteArray) (h1 : IsMap D) (h3 : ∀ b : List UInt8, D.atKey (.string b) (.lit (.int .i64 0)) = .lit (.int .i64 (if b ∈ names.map (fun n => n.data.toList) then 1 else 0)))
  (h2 : W'.ownsMap Tryz.prog 9 (plainElem Tryz.prog 3) M (names.length + 1) (D.put (.string nm.data.toList) (.lit (.int .i64 1)))) : Seen W' M (names ++ [nm]) := by
 refine ⟨_, ?_, by rw [List.length_append, List.length_singleton]; exact h2, fun b => ?_⟩
 ·obtain ⟨es, rfl⟩ := h1; exact ⟨_, rfl⟩
 ·by_cases hb : b = nm.data.toList
  ·rw [hb, atKey_put_same h1 (string_isKey _), if_pos (by simp)]
  ·rw [atKey_put_other (fun hh => hb (by injection hh)), h3]
   congr 3
   simp [hb]
theorem oneM_item (v : Nat → Option (Out J)) (s : List UInt8) (k : Nat) (a : List ByteArray × List J) (q : Nat) (o : Out (List ByteArray × List J)) (h : oneM v s k a q = some o) :
  (s[q]? = none ∧ o = .err 3 s.length) ∨ (∃ c, s[q]? = some c ∧ c ≠ 34 ∧ o = .err 40 q) ∨
  (s[q]? = some 34 ∧ ((∃ e p, textF s k [] (q + 1) = some (.err e p) ∧ o = .err e p) ∨ (∃ nm q1, textF s k [] (q + 1) = some (.val nm q1) ∧
   ((nm ∈ a.1.map (fun b => b.data.toList) ∧ o = .err 45 q) ∨ (nm ∉ a.1.map (fun b => b.data.toList) ∧
    ((s[blanksF s q1]? = none ∧ o = .err 3 s.length) ∨ (∃ c, s[blanksF s q1]? = some c ∧ c ≠ 58 ∧ o = .err 40 (blanksF s q1)) ∨
     (s[blanksF s q1]? = some 58 ∧ ((∃ e p, v (blanksF s (blanksF s q1 + 1)) = some (.err e p) ∧ o = .err e p) ∨ (∃ x q2, v (blanksF s (blanksF s q1 + 1)) = some (.val x q2) ∧ o = .val (a.1 ++ [bsJ nm], a.2 ++ [x]) q2))))))))) := by
 unfold oneM at h
 cases hc : s[q]? with
 | none => rw [hc] at h; injection h with h; exact .inl ⟨rfl, h.symm⟩
 | some c =>
  rw [hc] at h
  simp only at h
  by_cases h34 : c = 34
  ·refine .inr (.inr ⟨by rw [h34], ?_⟩)
   rw [if_pos h34] at h
   cases ht : textF s k [] (q + 1) with
   | none => rw [ht] at h; cases h
   | some ot =>
    rw [ht] at h
    cases ot with
    | err e p => injection h with h; exact .inl ⟨e, p, rfl, h.symm⟩
    | val nm q1 =>
     simp only at h
     refine .inr ⟨nm, q1, rfl, ?_⟩
     by_cases hm : nm ∈ a.1.map (fun b => b.data.toList)
     ·rw [if_pos hm] at h; injection h with h; exact .inl ⟨hm, h.symm⟩
     ·rw [if_neg hm] at h
      refine .inr ⟨hm, ?_⟩
      cases hc2 : s[blanksF s q1]? with
      | none => rw [hc2] at h; injection h with h; exact .inl ⟨rfl, h.symm⟩
      | some c2 =>
       rw [hc2] at h
       simp only at h
       by_cases h58 : c2 = 58
       ·rw [if_pos h58] at h
        refine .inr (.inr ⟨by rw [h58], ?_⟩)
        cases hv : v (blanksF s (blanksF s q1 + 1)) with
        | none => rw [hv] at h; cases h
        | some ov =>
         rw [hv] at h
         injection h with h
         cases ov with
         | err e p => exact .inl ⟨e, p, rfl, h.symm⟩
         | val x q2 => exact .inr ⟨x, q2, rfl, h.symm⟩
       ·rw [if_neg h58] at h; injection h with h; exact .inr (.inl ⟨c2, rfl, h58, h.symm⟩)
  ·rw [if_neg h34] at h; injection h with h; exact .inr (.inl ⟨c, rfl, h34, h.symm⟩)
theorem OI_final {R V PR PD PM M g1 c1 : Nat} {d : Int} {a : List ByteArray × List J} {j : J} {s : ByteArray} {q1 : Nat} {W0 w6 fin : World} {ys : List Value} {sn a3 : Value}
  (hown : w6.ownsRow W0.heap.size 25 4 (.slice (some ⟨g1, 0, none⟩) (a.2.length + 1) c1) (a.2.length + 1) ys)
  (hV6 : w6.heap[V]? = some (.cells #[.int .i64 6, .string ⟨#[]⟩, sn, a3] 25 (0, 0))) (hP6 : w6.heap[PR]? = some (.cells #[ptr R] 105 (0, 0))) (hD6 : w6.heap[PD]? = some (.cells #[.int .i64 d] 3 (0, 0))) (hM6 : w6.heap[PM]? = some (.cells #[.map (some M)] 166 (0, 0)))
  (hS6 : Seen w6 M a.1) (hN6 : Kd.string.R 9 w6 W0.heap.size (fun k => k ≠ V) sn a.1) (hlen : a.2.length + 1 ≤ q1) (hlen1 : a.1.length ≤ q1)
  (h : fin.heap[V]? = some (.cells #[.int .i64 6, .string ⟨#[]⟩, sn, .slice (some ⟨g1, 0, none⟩) (a.2.length + 1) c1] 25 (0, 0)) ∧ k25.R 25 fin W0.heap.size (fun k => k ≠ V ∧ some k ≠ sn.ownBlock) (.slice (some ⟨g1, 0, none⟩) (a.2.length + 1) c1) (a.2 ++ [j]) ∧ On R W0 fin ∧ RdB R s q1 fin ∧ (∀ b, b ≠ V → b ≠ g1 → fin.heap[b]? = w6.heap[b]?)) :
  Inv R s W0 (OI R W0.heap.size V PR PD PM M d) (a.1, a.2 ++ [j]) q1 fin := by
 obtain ⟨h1, h2, h3, h4, h5⟩ := h
 obtain ⟨cg, hg⟩ := own_typed hown g1 rfl
 have n1 : PR ≠ V := by rintro rfl; rw [hV6] at hP6; cases hP6
 have n2 : PD ≠ V := by rintro rfl; rw [hV6] at hD6; cases hD6
 have n3 : PR ≠ g1 := by rintro rfl; rw [hg] at hP6; cases hP6
 have n4 : PD ≠ g1 := by rintro rfl; rw [hg] at hD6; cases hD6
 have n5 : PM ≠ V := by rintro rfl; rw [hV6] at hM6; cases hM6
 have n6 : PM ≠ g1 := by rintro rfl; rw [hg] at hM6; cases hM6
 refine ⟨h4, h3, by rw [List.length_append, List.length_singleton]; exact hlen, hlen1, _, _, ⟨h1, (h5 PR n1 n3).trans hP6, (h5 PD n2 n4).trans hD6, (h5 PM n5 n6).trans hM6, hS6.move (h5 M (Ne.symm (hS6.ne hV6)) (Ne.symm (hS6.ne hg))), ?_, h2⟩⟩
 refine Kd.R_mono (Kd.R_move (Kd.R_bound hN6) (fun k hk => h5 k hk.1 ?_)) (fun _ hk => hk.1)
 rintro rfl
 obtain ⟨_, _, _, q, hq, cells, hc⟩ := hk
 rw [hg] at hc
 injection hc with hc
 injection hc with _ hc
 subst hc
 revert hq
 decide
theorem OSt.mapped {R B V PR PD PM M : Nat} {d : Int} {a : List ByteArray × List J} {sn sv : Value} {W W' : World} {D : DataW Unit} {nm : List UInt8} (h : OSt R B V PR PD PM M d a.1 a sn sv W) (h1 : IsMap D) (h3 : ∀ b : List UInt8, D.atKey (.string b) (.lit (.int .i64 0)) = .lit (.int .i64 (if b ∈ a.1.map (fun n => n.data.toList) then 1 else 0)))
  (hown : W'.ownsMap Tryz.prog 9 (plainElem Tryz.prog 3) M (a.1.length + 1) (D.put (.string nm) (.lit (.int .i64 1)))) (hg : W.grownBy W' (some M)) : OSt R B V PR PD PM M d (a.1 ++ [bs nm]) a sn sv W' :=
 ⟨blk_grownM h.v h.seen hg, blk_grownM h.r h.seen hg, blk_grownM h.dd h.seen hg, blk_grownM h.pm h.seen hg, seen_put (W := W) (bs nm) h1 h3 hown, R_map h.names h.seen hg, R_map h.items h.seen hg⟩
theorem key_bs (nm : List UInt8) (h : nm.length ≤ maxLen) : keyOf Tryz.prog 9 (.string (bs nm)) = some (.string nm) := Go.WideMaps.keyOf_string_mk Tryz.underlying9 (s := bs nm) (by rw [bs_size]; exact h)
theorem textF_len (s : List UInt8) : ∀ (k : Nat) (out : List UInt8) (p q : Nat) (t : List UInt8), textF s k out p = some (.val t q) → t.length ≤ out.length + 2 * (q - p)
 | 0, out, p, q, t, h => by simp [textF] at h
 | k + 1, out, p, q, t, h => by
  cases hc : s[p]? with
  | none => rw [textF_short _ _ _ _ hc] at h; injection h with h; cases h
  | some c =>
   have hlt := (List.getElem?_eq_some_iff.1 hc).1
   by_cases h34 : c = 34
   ·rw [textF_end _ _ _ _ _ hc h34] at h
    injection h with h
    injection h with h _
    rw [h]; omega
   ·by_cases h32 : c.toNat < 32
    ·rw [textF_low _ _ _ _ _ hc h32] at h; injection h with h; cases h
    ·by_cases h92 : c = 92
     ·rw [textF_esc _ _ _ _ _ hc h92] at h
      cases hes : escF s p with
      | err e q1 => rw [hes] at h; injection h with h; cases h
      | val r q1 =>
       rw [hes] at h
       obtain ⟨h1, h2, _⟩ := escF_val _ _ _ _ hes
       have h3 := textF_len s k _ _ _ _ h
       have h4 := textF_val s k _ _ _ _ h
       have h5 := encodeRune_le r
       rw [List.length_append] at h3
       omega
     ·by_cases h128 : c.toNat < 128
      ·rw [textF_ascii _ _ _ _ _ hc h34 h32 h92 h128] at h
       have h3 := textF_len s k _ _ _ _ h
       have h4 := textF_val s k _ _ _ _ h
       rw [List.length_append, List.length_singleton] at h3
       omega
      ·rw [textF_rune _ _ _ _ _ hc h128] at h
       split at h
       ·split at h <;> (injection h with h; cases h)
       ·have h3 := textF_len s k _ _ _ _ h
        have h4 := textF_val s k _ _ _ _ h
        rw [List.length_append] at h3
        have h5 := List.length_take_le (decodeGo ⟨(s.drop p).toArray⟩).2 (s.drop p)
        omega
set_option maxRecDepth 1000000 in
set_option maxHeartbeats 4000000 in
theorem obj1_A (R : Nat) (s : ByteArray) (k r V PR PD PM M : Nat) (d p0 : Int) (W0 : World) (hl : s.size ≤ 10000000000) (hR0 : RdB R s p0 W0) (hT : Tabs W0) (hG : OGeo R W0.heap.size V PR PD PM M) (hVal : ValOK R s k r (wrap64 (d + 1)))
  (a : List ByteArray × List J) (q : Nat) (o : Out (List ByteArray × List J)) (W : World) (hq : q ≤ s.size) (h : Inv R s W0 (OI R W0.heap.size V PR PD PM M d) a q W) (h1 : s.data.toList[q]? = none) (h2 : o = .err 3 s.data.toList.length) :
  Calls Tryz.prog 143 #[.pointer (some ⟨PR, 0, none⟩), .pointer (some ⟨PM, 0, none⟩), .pointer (some ⟨V, 0, none⟩), .pointer (some ⟨PD, 0, none⟩)] W (SevEnds R s W0 (OI R W0.heap.size V PR PD PM M d) o) := by
 obtain ⟨hR, hO, hlq, hnq, sn, sv, hS⟩ := h
 have HT := am (fun (w : World) (ho : On R W0 w) => hT.on hR0 ho)
 have HR := am hR
 have HOW := am hO
 have HS := am hS
 have HG := am hG
 have HRB := am hR0.lt
 have HRW := am hR.lt
 have HVal := am hVal
 have r0 : W.cell? ⟨PR, 0, none⟩ = some (ptr R) := (blk_cell hS.r 0).trans rfl
 have c1 := hR.c1
 clear hR hO hS hR0 hT hVal hG
 have hps : s.size ≤ q := by rw [List.getElem?_eq_none_iff, size_data] at h1; exact h1
 have HX := am (h2.trans (by rw [size_data]))
 clear h1 h2
 go_enter Tryz.func143, Tryz.ntmps143
 go_wp2_with (go_at_call 104; (with_reducible refine (peek_short R s q hps _ ?rd1).mono ?_); (case rd1 => exact HR.out); rintro e w1 ⟨rfl, hb⟩; have HB := am hb; clear hb)
 exact ⟨rfl, SevEnds.no HX.out (HOW.out.drawn HB.out)⟩
set_option maxRecDepth 1000000 in
set_option maxHeartbeats 4000000 in
theorem obj1_B (R : Nat) (s : ByteArray) (k r V PR PD PM M : Nat) (d p0 : Int) (W0 : World) (hl : s.size ≤ 10000000000) (hR0 : RdB R s p0 W0) (hT : Tabs W0) (hG : OGeo R W0.heap.size V PR PD PM M) (hVal : ValOK R s k r (wrap64 (d + 1)))
  (a : List ByteArray × List J) (q : Nat) (o : Out (List ByteArray × List J)) (W : World) (hq : q ≤ s.size) (h : Inv R s W0 (OI R W0.heap.size V PR PD PM M d) a q W) (c : UInt8) (h1 : s.data.toList[q]? = some c) (h34 : c ≠ 34) (h2 : o = .err 40 q) :
  Calls Tryz.prog 143 #[.pointer (some ⟨PR, 0, none⟩), .pointer (some ⟨PM, 0, none⟩), .pointer (some ⟨V, 0, none⟩), .pointer (some ⟨PD, 0, none⟩)] W (SevEnds R s W0 (OI R W0.heap.size V PR PD PM M d) o) := by
 obtain ⟨hR, hO, hlq, hnq, sn, sv, hS⟩ := h
 have HT := am (fun (w : World) (ho : On R W0 w) => hT.on hR0 ho)
 have HR := am hR
 have HOW := am hO
 have HS := am hS
 have HG := am hG
 have HRB := am hR0.lt
 have HRW := am hR.lt
 have HVal := am hVal
 have r0 : W.cell? ⟨PR, 0, none⟩ = some (ptr R) := (blk_cell hS.r 0).trans rfl
 have c1 := hR.c1
 clear hR hO hS hR0 hT hVal hG
 have HC := am h1
 have HX := am h2
 have e34 : ((c.toNat : Int) != 34) = true := (bne_u8' c 34).trans (congrArg (!·) (decide_eq_false h34))
 clear h1 h2 h34
 go_enter Tryz.func143, Tryz.ntmps143
 go_wp2_with (go_at_call 104; (with_reducible refine (peek_ok R s q c HC.out _ ?rd1).mono ?_); (case rd1 => exact HR.out); rintro e w1 ⟨rfl, hb⟩; have HR1 := am (HR.out.drawn hb); have HO1 := am ((On.refl R W).drawn hb); have HS1 := am (HS.out.on HG.out HO1.out); have r1 : w1.cell? ⟨PR, 0, none⟩ = some (ptr R) := (blk_cell HS1.out.r 0).trans rfl; have d1 := HR1.out.c1; clear hb)
 go_region_with ((go_at_call 57; (with_reducible refine (fail_calls _ _ _ _).mono ?_); rintro e w9 ⟨rfl, hb⟩; refine any_dummy w9 ⟨rfl, SevEnds.no HX.out (HOW.out.trans ((HO1.out.drewN 1).drawn hb))⟩ ?_))
 all_goals trivial
set_option maxRecDepth 1000000 in
set_option maxHeartbeats 4000000 in
theorem obj1_C (R : Nat) (s : ByteArray) (k r V PR PD PM M : Nat) (d p0 : Int) (W0 : World) (hl : s.size ≤ 10000000000) (hR0 : RdB R s p0 W0) (hT : Tabs W0) (hG : OGeo R W0.heap.size V PR PD PM M) (hVal : ValOK R s k r (wrap64 (d + 1)))
  (a : List ByteArray × List J) (q : Nat) (o : Out (List ByteArray × List J)) (W : World) (hq : q ≤ s.size) (h : Inv R s W0 (OI R W0.heap.size V PR PD PM M d) a q W) (h1 : s.data.toList[q]? = some 34) (e q1 : Nat) (h2 : textF s.data.toList k [] (q + 1) = some (.err e q1)) (h3 : o = .err e q1) :
  Calls Tryz.prog 143 #[.pointer (some ⟨PR, 0, none⟩), .pointer (some ⟨PM, 0, none⟩), .pointer (some ⟨V, 0, none⟩), .pointer (some ⟨PD, 0, none⟩)] W (SevEnds R s W0 (OI R W0.heap.size V PR PD PM M d) o) := by
 obtain ⟨hR, hO, hlq, hnq, sn, sv, hS⟩ := h
 have HT := am (fun (w : World) (ho : On R W0 w) => hT.on hR0 ho)
 have HR := am hR
 have HOW := am hO
 have HS := am hS
 have HG := am hG
 have HRB := am hR0.lt
 have HRW := am hR.lt
 have HVal := am hVal
 have r0 : W.cell? ⟨PR, 0, none⟩ = some (ptr R) := (blk_cell hS.r 0).trans rfl
 have c1 := hR.c1
 clear hR hO hS hR0 hT hVal hG
 have HC := am h1
 have hlt := at_lt' h1
 have e34 : (((34 : UInt8).toNat : Int) != 34) = false := by decide
 clear h1
 have HE := am h2
 have HX := am h3
 clear h2 h3
 go_enter Tryz.func143, Tryz.ntmps143
 go_wp2_with (first | (go_at_call 104; (with_reducible refine (peek_ok R s q 34 HC.out _ ?rd1).mono ?_); (case rd1 => exact HR.out); rintro e w1 ⟨rfl, hb⟩; have HR1 := am (HR.out.drawn hb); have HO1 := am ((On.refl R W).drawn hb); have HS1 := am (HS.out.on HG.out HO1.out); have r1 : w1.cell? ⟨PR, 0, none⟩ = some (ptr R) := (blk_cell HS1.out.r 0).trans rfl; have d1 := HR1.out.c1; clear hb) | (go_at_call 107; (with_reducible refine (Calls.err_of (text_calls R s q k _ hl hlt _ ?rd2 ?tb2 HE.out) rfl).mono ?_); (case rd2 => exact HR1.out); (case tb2 => exact HT.out _ (HOW.out.trans HO1.out)); rintro e w2 ⟨rfl, ho⟩; have HO2 := am (HO1.out.trans ho); clear ho))
 exact ⟨rfl, SevEnds.no HX.out (HOW.out.trans HO2.out)⟩
set_option maxRecDepth 1000000 in
set_option maxHeartbeats 4000000 in
theorem obj1_D (R : Nat) (s : ByteArray) (k r V PR PD PM M : Nat) (d p0 : Int) (W0 : World) (hl : s.size ≤ 10000000000) (hR0 : RdB R s p0 W0) (hT : Tabs W0) (hG : OGeo R W0.heap.size V PR PD PM M) (hVal : ValOK R s k r (wrap64 (d + 1)))
  (a : List ByteArray × List J) (q : Nat) (o : Out (List ByteArray × List J)) (W : World) (hq : q ≤ s.size) (h : Inv R s W0 (OI R W0.heap.size V PR PD PM M d) a q W) (h1 : s.data.toList[q]? = some 34) (nm : List UInt8) (q1 : Nat) (h2 : textF s.data.toList k [] (q + 1) = some (.val nm q1)) (hm : nm ∈ a.1.map (fun b => b.data.toList)) (h3 : o = .err 45 q) :
  Calls Tryz.prog 143 #[.pointer (some ⟨PR, 0, none⟩), .pointer (some ⟨PM, 0, none⟩), .pointer (some ⟨V, 0, none⟩), .pointer (some ⟨PD, 0, none⟩)] W (SevEnds R s W0 (OI R W0.heap.size V PR PD PM M d) o) := by
 obtain ⟨hR, hO, hlq, hnq, sn, sv, hS⟩ := h
 have HT := am (fun (w : World) (ho : On R W0 w) => hT.on hR0 ho)
 have HR := am hR
 have HOW := am hO
 have HS := am hS
 have HG := am hG
 have HRB := am hR0.lt
 have HRW := am hR.lt
 have HVal := am hVal
 have r0 : W.cell? ⟨PR, 0, none⟩ = some (ptr R) := (blk_cell hS.r 0).trans rfl
 have c1 := hR.c1
 clear hR hO hS hR0 hT hVal hG
 have HC := am h1
 have hlt := at_lt' h1
 have e34 : (((34 : UInt8).toNat : Int) != 34) = false := by decide
 clear h1
 have HE := am h2
 have ht1 := textF_val _ _ _ _ _ _ h2
 have ht2 := textF_len _ _ _ _ _ _ h2
 rw [size_data] at ht1
 rw [List.length_nil] at ht2
 have HK := am (key_bs nm (by unfold maxLen; omega))
 have HX := am h3
 clear h2 h3
 go_enter Tryz.func143, Tryz.ntmps143
 go_wp2_with (first | (go_at_call 104; (with_reducible refine (peek_ok R s q 34 HC.out _ ?rd1).mono ?_); (case rd1 => exact HR.out); rintro e w1 ⟨rfl, hb⟩; have HR1 := am (HR.out.drawn hb); have HO1 := am ((On.refl R W).drawn hb); have HS1 := am (HS.out.on HG.out HO1.out); have r1 : w1.cell? ⟨PR, 0, none⟩ = some (ptr R) := (blk_cell HS1.out.r 0).trans rfl; have d1 := HR1.out.c1; clear hb) | (go_at_call 107; (with_reducible refine (Calls.val_of (text_calls R s q k _ hl hlt _ ?rd2 ?tb2 HE.out) rfl).mono ?_); (case rd2 => exact HR1.out); (case tb2 => exact HT.out _ (HOW.out.trans HO1.out)); rintro e w2 ⟨v, rfl, hv, hr, ho⟩; subst hv; have HO2 := am (HO1.out.trans ho); have HR2 := am hr; have HS2 := am (HS.out.on HG.out HO2.out); have r2 : w2.cell? ⟨PR, 0, none⟩ = some (ptr R) := (blk_cell HS2.out.r 0).trans rfl; have m2 : w2.cell? ⟨PM, 0, none⟩ = some (.map (some M)) := (blk_cell HS2.out.pm 0).trans rfl; clear hr ho) | (at_lookup; obtain ⟨D, hD1, hD2, hD3⟩ := HS2.out.seen; refine wpList_lookup_own_int _ rfl _ _ 166 rfl 9 3 .i64 key9 Tryz.underlying166 Tryz.underlying3 (zero3 _) M a.1.length D rfl hD2 (.string (bs nm)) (.string nm) rfl HK.out ?_; intro cc hat hwc; rw [hD3 nm, if_pos hm] at hat; injection hat with hat; injection hat with _ hat; subst hat; have HD1 := am hD1; have HD2 := am hD2; have HD3 := am hD3; clear hD1 hD2 hD3 hwc) | (go_at_call 57; (with_reducible refine (fail_calls _ _ _ _).mono ?_); rintro e w9 ⟨rfl, hb⟩; have HB9 := am hb; clear hb))
 exact ⟨rfl, SevEnds.no HX.out (HOW.out.trans (HO2.out.drawn HB9.out))⟩
set_option maxRecDepth 1000000 in
set_option maxHeartbeats 4000000 in
theorem obj1_E (R : Nat) (s : ByteArray) (k r V PR PD PM M : Nat) (d p0 : Int) (W0 : World) (hl : s.size ≤ 10000000000) (hR0 : RdB R s p0 W0) (hT : Tabs W0) (hG : OGeo R W0.heap.size V PR PD PM M) (hVal : ValOK R s k r (wrap64 (d + 1)))
  (a : List ByteArray × List J) (q : Nat) (o : Out (List ByteArray × List J)) (W : World) (hq : q ≤ s.size) (h : Inv R s W0 (OI R W0.heap.size V PR PD PM M d) a q W) (h1 : s.data.toList[q]? = some 34) (nm : List UInt8) (q1 : Nat) (h2 : textF s.data.toList k [] (q + 1) = some (.val nm q1)) (hm : nm ∉ a.1.map (fun b => b.data.toList)) (h4 : s.data.toList[blanksF s.data.toList q1]? = none) (h3 : o = .err 3 s.data.toList.length) :
  Calls Tryz.prog 143 #[.pointer (some ⟨PR, 0, none⟩), .pointer (some ⟨PM, 0, none⟩), .pointer (some ⟨V, 0, none⟩), .pointer (some ⟨PD, 0, none⟩)] W (SevEnds R s W0 (OI R W0.heap.size V PR PD PM M d) o) := by
 obtain ⟨hR, hO, hlq, hnq, sn, sv, hS⟩ := h
 have HT := am (fun (w : World) (ho : On R W0 w) => hT.on hR0 ho)
 have HR := am hR
 have HOW := am hO
 have HS := am hS
 have HG := am hG
 have HRB := am hR0.lt
 have HRW := am hR.lt
 have HVal := am hVal
 have r0 : W.cell? ⟨PR, 0, none⟩ = some (ptr R) := (blk_cell hS.r 0).trans rfl
 have c1 := hR.c1
 clear hR hO hS hR0 hT hVal hG
 have HC := am h1
 have hlt := at_lt' h1
 have e34 : (((34 : UInt8).toNat : Int) != 34) = false := by decide
 clear h1
 have HE := am h2
 have ht1 := textF_val _ _ _ _ _ _ h2
 have ht2 := textF_len _ _ _ _ _ _ h2
 rw [size_data] at ht1
 rw [List.length_nil] at ht2
 have HK := am (key_bs nm (by unfold maxLen; omega))
 have HX := am (h3.trans (by rw [size_data]))
 clear h2 h3
 have hb1 := blanks_ge s.data.toList q1
 have hb2 := blanks_le s.data.toList q1 (by rw [size_data]; exact ht1.2)
 rw [size_data] at hb2
 have hps : s.size ≤ blanksF s.data.toList q1 := by rw [List.getElem?_eq_none_iff, size_data] at h4; exact h4
 clear h4
 generalize hg1 : blanksF s.data.toList q1 = b1 at *
 have HG1 := am hg1
 clear hg1
 go_enter Tryz.func143, Tryz.ntmps143
 go_wp2_with (first | (go_at_call 104; (with_reducible refine (peek_ok R s q 34 HC.out _ ?rd1).mono ?_); (case rd1 => exact HR.out); rintro e w1 ⟨rfl, hb⟩; have HR1 := am (HR.out.drawn hb); have HO1 := am ((On.refl R W).drawn hb); have HS1 := am (HS.out.on HG.out HO1.out); have r1 : w1.cell? ⟨PR, 0, none⟩ = some (ptr R) := (blk_cell HS1.out.r 0).trans rfl; have d1 := HR1.out.c1; clear hb) | (go_at_call 107; (with_reducible refine (Calls.val_of (text_calls R s q k _ hl hlt _ ?rd2 ?tb2 HE.out) rfl).mono ?_); (case rd2 => exact HR1.out); (case tb2 => exact HT.out _ (HOW.out.trans HO1.out)); rintro e w2 ⟨v, rfl, hv, hr, ho⟩; subst hv; have HO2 := am (HO1.out.trans ho); have HR2 := am hr; have HS2 := am (HS.out.on HG.out HO2.out); have r2 : w2.cell? ⟨PR, 0, none⟩ = some (ptr R) := (blk_cell HS2.out.r 0).trans rfl; have m2 : w2.cell? ⟨PM, 0, none⟩ = some (.map (some M)) := (blk_cell HS2.out.pm 0).trans rfl; clear hr ho) | (at_lookup; obtain ⟨D, hD1, hD2, hD3⟩ := HS2.out.seen; refine wpList_lookup_own_int _ rfl _ _ 166 rfl 9 3 .i64 key9 Tryz.underlying166 Tryz.underlying3 (zero3 _) M a.1.length D rfl hD2 (.string (bs nm)) (.string nm) rfl HK.out ?_; intro cc hat hwc; rw [hD3 nm, if_neg hm] at hat; injection hat with hat; injection hat with _ hat; subst hat; have HD1 := am hD1; have HD2 := am hD2; have HD3 := am hD3; clear hD1 hD2 hD3 hwc) | (at_mapUpdate; refine wpList_mapUpdate_own _ rfl _ _ _ 166 rfl 9 3 key9 Tryz.underlying166 _ M a.1.length _ rfl HD2.out (by unfold maxLen; omega) _ _ _ rfl rfl HK.out _ [] (plainElem_int Tryz.underlying3 (by decide)) ?_; intro w3 hown3 hg3; have HS3 := am (HS2.out.mapped HD1.out HD3.out hown3 hg3); have HO3 := am ((HOW.out.trans HO2.out).grownRow hg3 (fun b hb => by injection hb with hb; have := HG.out.m; omega) (Nat.le_of_lt HRB.out)); have HR3 := am (show RdB R s q1 w3 from blk_grownM HR2.out HS2.out.seen hg3); have r3 : w3.cell? ⟨PR, 0, none⟩ = some (ptr R) := (blk_cell HS3.out.r 0).trans rfl; clear hown3 hg3) | (go_at_call 55; (with_reducible refine (blanks_calls R s q1 (by omega) (by omega) _ ?rd4).mono ?_); (case rd4 => exact HR3.out); rintro e w4 ⟨rfl, hr, ho⟩; rw [HG1.out] at hr; have HR4 := am hr; have HN4 := am ho; have HO4 := am (HO3.out.trans ho); have HS4 := am (HS3.out.on HG.out ho); have r4 : w4.cell? ⟨PR, 0, none⟩ = some (ptr R) := (blk_cell HS4.out.r 0).trans rfl; clear hr ho) | (go_at_call 104; (with_reducible refine (peek_short R s b1 hps _ ?rd5).mono ?_); (case rd5 => exact HR4.out); rintro e w5 ⟨rfl, hb⟩; have HB := am hb; clear hb))
 exact ⟨rfl, SevEnds.no HX.out (HO4.out.drawn HB.out)⟩
set_option maxRecDepth 1000000 in
set_option maxHeartbeats 4000000 in
theorem obj1_F (R : Nat) (s : ByteArray) (k r V PR PD PM M : Nat) (d p0 : Int) (W0 : World) (hl : s.size ≤ 10000000000) (hR0 : RdB R s p0 W0) (hT : Tabs W0) (hG : OGeo R W0.heap.size V PR PD PM M) (hVal : ValOK R s k r (wrap64 (d + 1)))
  (a : List ByteArray × List J) (q : Nat) (o : Out (List ByteArray × List J)) (W : World) (hq : q ≤ s.size) (h : Inv R s W0 (OI R W0.heap.size V PR PD PM M d) a q W) (h1 : s.data.toList[q]? = some 34) (nm : List UInt8) (q1 : Nat) (h2 : textF s.data.toList k [] (q + 1) = some (.val nm q1)) (hm : nm ∉ a.1.map (fun b => b.data.toList)) (c : UInt8) (h4 : s.data.toList[blanksF s.data.toList q1]? = some c) (h58 : c ≠ 58) (h3 : o = .err 40 (blanksF s.data.toList q1)) :
  Calls Tryz.prog 143 #[.pointer (some ⟨PR, 0, none⟩), .pointer (some ⟨PM, 0, none⟩), .pointer (some ⟨V, 0, none⟩), .pointer (some ⟨PD, 0, none⟩)] W (SevEnds R s W0 (OI R W0.heap.size V PR PD PM M d) o) := by
 obtain ⟨hR, hO, hlq, hnq, sn, sv, hS⟩ := h
 have HT := am (fun (w : World) (ho : On R W0 w) => hT.on hR0 ho)
 have HR := am hR
 have HOW := am hO
 have HS := am hS
 have HG := am hG
 have HRB := am hR0.lt
 have HRW := am hR.lt
 have HVal := am hVal
 have r0 : W.cell? ⟨PR, 0, none⟩ = some (ptr R) := (blk_cell hS.r 0).trans rfl
 have c1 := hR.c1
 clear hR hO hS hR0 hT hVal hG
 have HC := am h1
 have hlt := at_lt' h1
 have e34 : (((34 : UInt8).toNat : Int) != 34) = false := by decide
 clear h1
 have HE := am h2
 have ht1 := textF_val _ _ _ _ _ _ h2
 have ht2 := textF_len _ _ _ _ _ _ h2
 rw [size_data] at ht1
 rw [List.length_nil] at ht2
 have HK := am (key_bs nm (by unfold maxLen; omega))
 have HX := am h3
 clear h2 h3
 have hb1 := blanks_ge s.data.toList q1
 have hb2 := blanks_le s.data.toList q1 (by rw [size_data]; exact ht1.2)
 rw [size_data] at hb2
 have HC2 := am h4
 have e58 : ((c.toNat : Int) != 58) = true := (bne_u8' c 58).trans (congrArg (!·) (decide_eq_false h58))
 clear h4 h58
 generalize hg1 : blanksF s.data.toList q1 = b1 at *
 have HG1 := am hg1
 clear hg1
 go_enter Tryz.func143, Tryz.ntmps143
 go_wp2_with (first | (go_at_call 104; (with_reducible refine (peek_ok R s q 34 HC.out _ ?rd1).mono ?_); (case rd1 => exact HR.out); rintro e w1 ⟨rfl, hb⟩; have HR1 := am (HR.out.drawn hb); have HO1 := am ((On.refl R W).drawn hb); have HS1 := am (HS.out.on HG.out HO1.out); have r1 : w1.cell? ⟨PR, 0, none⟩ = some (ptr R) := (blk_cell HS1.out.r 0).trans rfl; have d1 := HR1.out.c1; clear hb) | (go_at_call 107; (with_reducible refine (Calls.val_of (text_calls R s q k _ hl hlt _ ?rd2 ?tb2 HE.out) rfl).mono ?_); (case rd2 => exact HR1.out); (case tb2 => exact HT.out _ (HOW.out.trans HO1.out)); rintro e w2 ⟨v, rfl, hv, hr, ho⟩; subst hv; have HO2 := am (HO1.out.trans ho); have HR2 := am hr; have HS2 := am (HS.out.on HG.out HO2.out); have r2 : w2.cell? ⟨PR, 0, none⟩ = some (ptr R) := (blk_cell HS2.out.r 0).trans rfl; have m2 : w2.cell? ⟨PM, 0, none⟩ = some (.map (some M)) := (blk_cell HS2.out.pm 0).trans rfl; clear hr ho) | (at_lookup; obtain ⟨D, hD1, hD2, hD3⟩ := HS2.out.seen; refine wpList_lookup_own_int _ rfl _ _ 166 rfl 9 3 .i64 key9 Tryz.underlying166 Tryz.underlying3 (zero3 _) M a.1.length D rfl hD2 (.string (bs nm)) (.string nm) rfl HK.out ?_; intro cc hat hwc; rw [hD3 nm, if_neg hm] at hat; injection hat with hat; injection hat with _ hat; subst hat; have HD1 := am hD1; have HD2 := am hD2; have HD3 := am hD3; clear hD1 hD2 hD3 hwc) | (at_mapUpdate; refine wpList_mapUpdate_own _ rfl _ _ _ 166 rfl 9 3 key9 Tryz.underlying166 _ M a.1.length _ rfl HD2.out (by unfold maxLen; omega) _ _ _ rfl rfl HK.out _ [] (plainElem_int Tryz.underlying3 (by decide)) ?_; intro w3 hown3 hg3; have HS3 := am (HS2.out.mapped HD1.out HD3.out hown3 hg3); have HO3 := am ((HOW.out.trans HO2.out).grownRow hg3 (fun b hb => by injection hb with hb; have := HG.out.m; omega) (Nat.le_of_lt HRB.out)); have HR3 := am (show RdB R s q1 w3 from blk_grownM HR2.out HS2.out.seen hg3); have r3 : w3.cell? ⟨PR, 0, none⟩ = some (ptr R) := (blk_cell HS3.out.r 0).trans rfl; clear hown3 hg3) | (go_at_call 55; (with_reducible refine (blanks_calls R s q1 (by omega) (by omega) _ ?rd4).mono ?_); (case rd4 => exact HR3.out); rintro e w4 ⟨rfl, hr, ho⟩; rw [HG1.out] at hr; have HR4 := am hr; have HN4 := am ho; have HO4 := am (HO3.out.trans ho); have HS4 := am (HS3.out.on HG.out ho); have r4 : w4.cell? ⟨PR, 0, none⟩ = some (ptr R) := (blk_cell HS4.out.r 0).trans rfl; clear hr ho) | (go_at_call 104; (with_reducible refine (peek_ok R s b1 c HC2.out _ ?rd5).mono ?_); (case rd5 => exact HR4.out); rintro e w5 ⟨rfl, hb⟩; have HR5 := am (HR4.out.drawn hb); have HN5 := am ((On.refl R w4).drawn hb); have HO5 := am (HO4.out.drawn hb); have HS5 := am (HS4.out.on HG.out HN5.out); have r5 : w5.cell? ⟨PR, 0, none⟩ = some (ptr R) := (blk_cell HS5.out.r 0).trans rfl; have d5 := HR5.out.c1; have f5 := HR5.out.f1; have r5' : (w5.setCell ⟨R, 1, none⟩ (.int .i64 ((b1 : Int) + 1))).cell? ⟨PR, 0, none⟩ = some (ptr R) := (blk_cell (HS5.out.on HG.out ((On.refl R w5).set 1 (.int .i64 ((b1 : Int) + 1)))).r 0).trans rfl; clear hb))
 go_region_with ((go_at_call 57; (with_reducible refine (fail_calls _ _ _ _).mono ?_); rintro e w9 ⟨rfl, hb⟩; refine any_dummy w9 ⟨rfl, SevEnds.no HX.out ((HO5.out.drewN 1).drawn hb)⟩ ?_))
 all_goals trivial
theorem seen_row {W : World} {B M : Nat} {ok : Nat → Prop} {sv : Value} {l : List J} {ns : List ByteArray} (h : k25.R 25 W B ok sv l) (hs : Seen W M ns) : some M ≠ sv.ownBlock := fun hh => by
 obtain ⟨cells, hc⟩ := Kd.R_typed h M hh.symm
 exact hs.ne hc rfl
theorem OSt.named {R B V PR PD PM M : Nat} {d : Int} {a : List ByteArray × List J} {sn sv v1 : Value} {W W7 : World} {nm : List UInt8} (h : OSt R B V PR PD PM M d (a.1 ++ [bs nm]) a sn sv W) (hn : Kd.string.R 9 W7 B (fun k => k ≠ V) v1 (a.1 ++ [bs nm]))
  (hg : W.grownBy W7 sn.ownBlock) (hat : v1.ownBlock = sn.ownBlock ∨ ∃ b, v1.ownBlock = some b ∧ W.heap.size ≤ b) : OSt R B V PR PD PM M d (a.1 ++ [bs nm]) (a.1 ++ [bs nm], a.2) v1 sv (W7.setCell ⟨V, 2, none⟩ v1) := by
 have n1 : PR ≠ V := by rintro rfl; have := h.r; rw [h.v] at this; cases this
 have n2 : PD ≠ V := by rintro rfl; have := h.dd; rw [h.v] at this; cases this
 have n3 : PM ≠ V := by rintro rfl; have := h.pm; rw [h.v] at this; cases this
 have hv := blk_grown (o := .cells #[.int .i64 6, .string ⟨#[]⟩, sn, sv] 25 (0, 0)) h.v hg (Kd.R_away h.names (fun _ hk => hk))
 have nM : V ≠ M := h.seen.ne h.v
 have rM : some M ≠ sn.ownBlock := fun hh => by
  obtain ⟨cells, hc⟩ := Kd.R_typed h.names M hh.symm
  exact h.seen.ne hc rfl
 refine ⟨(blk_set 2 v1 hv).trans rfl, ?_, ?_, ?_, ?_, Kd.R_far hn (fun _ hk => hk) _, ?_⟩
 ·exact (Below.heap_setCell _ _ _ _ n1).trans (blk_grown (o := .cells #[ptr R] 105 (0, 0)) h.r hg (Kd.R_ne h.names h.r (by decide)))
 ·exact (Below.heap_setCell _ _ _ _ n2).trans (blk_grown (o := .cells #[.int .i64 d] 3 (0, 0)) h.dd hg (Kd.R_ne h.names h.dd (by decide)))
 ·exact (Below.heap_setCell _ _ _ _ n3).trans (blk_grown (o := .cells #[.map (some M)] 166 (0, 0)) h.pm hg (Kd.R_ne h.names h.pm (by decide)))
 ·exact h.seen.move ((Below.heap_setCell _ _ _ _ (Ne.symm nM)).trans (hg.block M h.seen.lt rM))
 ·exact Kd.R_far (Kd.R_after h.items hg hat) (fun _ hk => hk.1) _
set_option maxRecDepth 1000000 in
set_option maxHeartbeats 4000000 in
theorem obj1_G (R : Nat) (s : ByteArray) (k r V PR PD PM M : Nat) (d p0 : Int) (W0 : World) (hl : s.size ≤ 10000000000) (hR0 : RdB R s p0 W0) (hT : Tabs W0) (hG : OGeo R W0.heap.size V PR PD PM M) (hVal : ValOK R s k r (wrap64 (d + 1)))
  (a : List ByteArray × List J) (q : Nat) (o : Out (List ByteArray × List J)) (W : World) (hq : q ≤ s.size) (h : Inv R s W0 (OI R W0.heap.size V PR PD PM M d) a q W) (h1 : s.data.toList[q]? = some 34) (nm : List UInt8) (q1' : Nat) (h2 : textF s.data.toList k [] (q + 1) = some (.val nm q1')) (hm : nm ∉ a.1.map (fun b => b.data.toList)) (h4 : s.data.toList[blanksF s.data.toList q1']? = some 58) (e q1 : Nat) (h5 : valueF s.data.toList k r (blanksF s.data.toList (blanksF s.data.toList q1' + 1)) = some (.err e q1)) (h3 : o = .err e q1) :
  Calls Tryz.prog 143 #[.pointer (some ⟨PR, 0, none⟩), .pointer (some ⟨PM, 0, none⟩), .pointer (some ⟨V, 0, none⟩), .pointer (some ⟨PD, 0, none⟩)] W (SevEnds R s W0 (OI R W0.heap.size V PR PD PM M d) o) := by
 obtain ⟨hR, hO, hlq, hnq, sn, sv, hS⟩ := h
 obtain ⟨A, c, esv⟩ := Kd.R_slice hS.items
 subst esv
 have HT := am (fun (w : World) (ho : On R W0 w) => hT.on hR0 ho)
 have HR := am hR
 have HOW := am hO
 have HS := am hS
 have HG := am hG
 have HRB := am hR0.lt
 have HRW := am hR.lt
 have HVal := am hVal
 have r0 : W.cell? ⟨PR, 0, none⟩ = some (ptr R) := (blk_cell hS.r 0).trans rfl
 have c1 := hR.c1
 clear hR hO hS hR0 hT hVal hG
 have HC := am h1
 have hlt := at_lt' h1
 have hltb := at_lt' h4
 have e34 : (((34 : UInt8).toNat : Int) != 34) = false := by decide
 have e58 : (((58 : UInt8).toNat : Int) != 58) = false := by decide
 have HE := am h2
 have HC2 := am h4
 have ht1 := textF_val _ _ _ _ _ _ h2
 have ht2 := textF_len _ _ _ _ _ _ h2
 rw [size_data] at ht1
 rw [List.length_nil] at ht2
 have HK := am (key_bs nm (by unfold maxLen; omega))
 have hb1 := blanks_ge s.data.toList q1'
 have hb3 := blanks_ge s.data.toList (blanksF s.data.toList q1' + 1)
 have hb4 := blanks_le s.data.toList (blanksF s.data.toList q1' + 1) (by rw [size_data]; omega)
 rw [size_data] at hb4
 have HE8 := am h5
 have HX := am h3
 clear h1 h2 h4 h5 h3
 generalize hg2 : blanksF s.data.toList (blanksF s.data.toList q1' + 1) = b2 at *
 generalize hg1 : blanksF s.data.toList q1' = b1 at *
 have HG1 := am hg1
 have HG2 := am hg2
 clear hg1 hg2
 go_enter Tryz.func143, Tryz.ntmps143
 go_wp2_with (first | (go_at_call 104; (with_reducible refine (peek_ok R s q 34 HC.out _ ?rd1).mono ?_); (case rd1 => exact HR.out); rintro e w1 ⟨rfl, hb⟩; have HR1 := am (HR.out.drawn hb); have HO1 := am ((On.refl R W).drawn hb); have HS1 := am (HS.out.on HG.out HO1.out); have r1 : w1.cell? ⟨PR, 0, none⟩ = some (ptr R) := (blk_cell HS1.out.r 0).trans rfl; have d1 := HR1.out.c1; clear hb) | (go_at_call 107; (with_reducible refine (Calls.val_of (text_calls R s q k _ hl hlt _ ?rd2 ?tb2 HE.out) rfl).mono ?_); (case rd2 => exact HR1.out); (case tb2 => exact HT.out _ (HOW.out.trans HO1.out)); rintro e w2 ⟨v, rfl, hv, hr, ho⟩; subst hv; have HO2 := am (HO1.out.trans ho); have HR2 := am hr; have HS2 := am (HS.out.on HG.out HO2.out); have r2 : w2.cell? ⟨PR, 0, none⟩ = some (ptr R) := (blk_cell HS2.out.r 0).trans rfl; have m2 : w2.cell? ⟨PM, 0, none⟩ = some (.map (some M)) := (blk_cell HS2.out.pm 0).trans rfl; clear hr ho) | (at_lookup; obtain ⟨D, hD1, hD2, hD3⟩ := HS2.out.seen; refine wpList_lookup_own_int _ rfl _ _ 166 rfl 9 3 .i64 key9 Tryz.underlying166 Tryz.underlying3 (zero3 _) M a.1.length D rfl hD2 (.string (bs nm)) (.string nm) rfl HK.out ?_; intro cc hat hwc; rw [hD3 nm, if_neg hm] at hat; injection hat with hat; injection hat with _ hat; subst hat; have HD1 := am hD1; have HD2 := am hD2; have HD3 := am hD3; clear hD1 hD2 hD3 hwc) | (at_mapUpdate; refine wpList_mapUpdate_own _ rfl _ _ _ 166 rfl 9 3 key9 Tryz.underlying166 _ M a.1.length _ rfl HD2.out (by unfold maxLen; omega) _ _ _ rfl rfl HK.out _ [] (plainElem_int Tryz.underlying3 (by decide)) ?_; intro w3 hown3 hg3; have HS3 := am (HS2.out.mapped HD1.out HD3.out hown3 hg3); have HO3 := am ((HOW.out.trans HO2.out).grownRow hg3 (fun b hb => by injection hb with hb; have := HG.out.m; omega) (Nat.le_of_lt HRB.out)); have HR3 := am (show RdB R s q1' w3 from blk_grownM HR2.out HS2.out.seen hg3); have r3 : w3.cell? ⟨PR, 0, none⟩ = some (ptr R) := (blk_cell HS3.out.r 0).trans rfl; clear hown3 hg3) | (go_at_call 55; (with_reducible refine (blanks_calls R s q1' (by omega) (by omega) _ ?rd4).mono ?_); (case rd4 => exact HR3.out); rintro e w4 ⟨rfl, hr, ho⟩; rw [HG1.out] at hr; have HR4 := am hr; have HN4 := am ho; have HO4 := am (HO3.out.trans ho); have HS4 := am (HS3.out.on HG.out ho); have r4 : w4.cell? ⟨PR, 0, none⟩ = some (ptr R) := (blk_cell HS4.out.r 0).trans rfl; clear hr ho) | (go_at_call 104; (with_reducible refine (peek_ok R s b1 58 HC2.out _ ?rd5).mono ?_); (case rd5 => exact HR4.out); rintro e w5 ⟨rfl, hb⟩; have HR5 := am (HR4.out.drawn hb); have HN5 := am ((On.refl R w4).drawn hb); have HO5 := am (HO4.out.drawn hb); have HS5 := am (HS4.out.on HG.out HN5.out); have r5 : w5.cell? ⟨PR, 0, none⟩ = some (ptr R) := (blk_cell HS5.out.r 0).trans rfl; have d5 := HR5.out.c1; have f5 := HR5.out.f1; have r5' : (w5.setCell ⟨R, 1, none⟩ (.int .i64 ((b1 : Int) + 1))).cell? ⟨PR, 0, none⟩ = some (ptr R) := (blk_cell (HS5.out.on HG.out ((On.refl R w5).set 1 (.int .i64 ((b1 : Int) + 1)))).r 0).trans rfl; clear hb) | (go_at_call 55; (with_reducible refine (blanks_calls R s (b1 + 1) (by omega) (by omega) _ ?rd6).mono ?_); (case rd6 => exact HR5.out.set _); rintro e w6 ⟨rfl, hr, ho⟩; rw [HG2.out] at hr; have HR6 := am hr; have HO6 := am ((HO5.out.set 1 _).trans ho); have HS6 := am (HS5.out.on HG.out (((On.refl R w5).set 1 _).trans ho)); obtain ⟨An, cn, en⟩ := Kd.R_slice HS6.out.names; subst en; have v6 : w6.cell? ⟨V, 2, none⟩ = some (.slice An a.1.length cn) := (blk_cell HS6.out.v 2).trans rfl; clear hr ho) | (at_builtin; refine Kd.R_append Kd.string (w0 := w6) W0.heap.size rfl (.tmp 51) (.tmp 53) 22 9 (.string ⟨#[]⟩) 16 rfl Tryz.underlying22 info9 rfl (by decide) (by decide) _ a.1 (bs nm) [.string (bs nm)] (fun k => k ≠ V) (fun _ => False) rfl rfl rfl (fun _ h => h.elim) ?fr7 HS6.out.names ?bl7 ?bs7 (by omega) ?_; (case fr7 => intro k hk; have := lt_of_block HS6.out.v; omega); (case bl7 => exact Below.refl _ _); (case bs7 => exact HO6.out.size); intro v1 w7 hn7 _ hg7 hat7; obtain ⟨A7, c7, e7⟩ := Kd.R_slice hn7; rw [List.length_append, List.length_singleton] at e7; subst e7; have HS7 := am (HS6.out.named hn7 hg7 hat7); have HO7 := am (HO6.out.grownRow hg7 (fun b hb => Kd.R_base HS6.out.names b hb) (Nat.le_of_lt HRB.out)); have HR7 := am (show RdB R s b2 w7 from (hg7.block R HR6.out.lt (fun hh => by have := Kd.R_base HS6.out.names R hh.symm; have := HRB.out; omega)).trans HR6.out); have HV7 := am (blk_grown (o := .cells #[.int .i64 6, .string ⟨#[]⟩, .slice An a.1.length cn, (.slice A a.2.length c)] 25 (0, 0)) HS6.out.v hg7 (Kd.R_away HS6.out.names (fun _ hk => hk))); have v7 : w7.cell? ⟨V, 2, none⟩ = some (.slice An a.1.length cn) := (blk_cell HV7.out 2).trans rfl; have x7 := blk_free HV7.out 2; clear hn7 hg7 hat7))
 have HR8 := am (show RdB R s b2 (w7.setCell ⟨V, 2, none⟩ (.slice A7 (a.1.length + 1) c7)) from (Below.heap_setCell _ _ _ _ (by show R ≠ V; have := HRB.out; have := HG.out.v; omega)).trans HR7.out)
 have HO8 := am (HO7.out.new V 2 (.slice A7 (a.1.length + 1) c7) HG.out.v (Nat.le_of_lt HRB.out))
 clear r0 c1 r1 d1 r2 m2 r3 r4 r5 d5 f5 r5' v6 v7 x7 HR HOW HS HRW
 have HS := HS7
 clear HS7 HR1 HO1 HS1 HO2 HR2 HS2 HD1 HD2 HD3 HS3 HO3 HR3 HR4 HN4 HO4 HS4 HR5 HN5 HO5 HS5 HR6 HO6 HS6 HO7 HR7 HV7 HC HC2 HK HE HG1 HG2 e34 e58
 generalize w7.setCell ⟨V, 2, none⟩ (.slice A7 (a.1.length + 1) c7) = w8 at HS HR8 HO8 ⊢
 have HRW := am HR8.out.lt
 have HT8 := am (fun (w : World) (ho : On R w8 w) => HT.out _ (HO8.out.trans ho))
 refine start_ (n := 13) (S := fun w' => w'.cell? ⟨V, 3, none⟩ = some (.slice A a.2.length c) ∧ w'.cell? ⟨PR, 0, none⟩ = some (ptr R) ∧ w'.cell? ⟨PD, 0, none⟩ = some (.int .i64 d)) (ds := [10, 12]) #[false, false, false, false, false, false, false, false, false, false, false, false, false] (by kernel_rfl) rfl rfl ⟨(blk_cell HS.out.v 3).trans rfl, (blk_cell HS.out.r 0).trans rfl, (blk_cell HS.out.dd 0).trans rfl⟩ (fun hHeld => ?_)
 have HR2 := am (show RdB R s b2 w8.drew from HR8.out.drew)
 have HO2 := am (show On R w8 w8.drew from (On.refl R w8).drewN 1)
 generalize w8.drew = w2 at HR2 HO2 hHeld ⊢
 have HS2 := am (HS.out.on HG.out HO2.out)
 refine pure_ (i := 0) (N := some 56) (v := ?_) (a' := ?_) #[true, false, false, false, false, false, false, false, false, false, false, false, false] rfl rfl (by kernel_rfl) (fun _ _ _ h => h) (Or.inl ⟨by rfl, ?_⟩) ?_ ?_
 rotate_left
 ·intro w'
  go_simp
  with_reducible rfl
 rotate_left
 ·simp only [Act.put, sAx, sZx, sSx, i64_w, i32_w]
  rfl
 refine take_ (i := 1) (N := some 57) (v := ?_) (a' := ?_) #[true, true, false, false, false, false, false, false, false, false, false, false, false] rfl rfl (by kernel_rfl) (fun _ _ _ h => h) (Or.inl ⟨by rfl, ?_⟩) hHeld ?_ ?_
 rotate_left
 ·rintro w' ⟨s0, s1, s2⟩
  go_simp
  with_reducible rfl
 rotate_left
 ·simp only [Act.put, sAx, sZx, sSx, i64_w, i32_w]
  rfl
 refine take_ (i := 2) (N := some 58) (v := ?_) (a' := ?_) #[true, true, true, false, false, false, false, false, false, false, false, false, false] rfl rfl (by kernel_rfl) (fun _ _ _ h => h) (Or.inl ⟨by rfl, ?_⟩) hHeld ?_ ?_
 rotate_left
 ·rintro w' ⟨s0, s1, s2⟩
  go_simp
  with_reducible rfl
 rotate_left
 ·simp only [Act.put, sAx, sZx, sSx, i64_w, i32_w]
  rfl
 refine take_ (i := 3) (N := some 59) (v := ?_) (a' := ?_) #[true, true, true, true, false, false, false, false, false, false, false, false, false] rfl rfl (by kernel_rfl) (fun _ _ _ h => h) (Or.inl ⟨by rfl, ?_⟩) hHeld ?_ ?_
 rotate_left
 ·rintro w' ⟨s0, s1, s2⟩
  go_simp
  with_reducible rfl
 rotate_left
 ·simp only [Act.put, sAx, sZx, sSx, i64_w, i32_w]
  rfl
 refine pure_ (i := 4) (N := some 60) (v := ?_) (a' := ?_) #[true, true, true, true, true, false, false, false, false, false, false, false, false] rfl rfl (by kernel_rfl) (fun _ _ _ h => h) (Or.inl ⟨by rfl, ?_⟩) ?_ ?_
 rotate_left
 ·intro w'
  go_simp
  with_reducible rfl
 rotate_left
 ·simp only [Act.put, sAx, sZx, sSx, i64_w, i32_w]
  rfl
 refine pure_ (i := 6) (N := some 62) (v := ?_) (a' := ?_) #[true, true, true, true, true, false, true, false, false, false, false, false, false] rfl rfl (by kernel_rfl) (fun _ _ _ h => h) (Or.inl ⟨by rfl, ?_⟩) ?_ ?_
 rotate_left
 ·intro w'
  go_simp
  with_reducible rfl
 rotate_left
 ·simp only [Act.put, sAx, sZx, sSx, i64_w, i32_w]
  rfl
 refine two_ (i := 5) (j := 7) (Ni := some 61) (Nj := some 63) #[true, true, true, true, true, true, true, false, false, false, false, false, false] #[true, true, true, true, true, false, true, true, false, false, false, false, false] rfl rfl rfl rfl (by kernel_rfl) (by decide) (by decide) (fun K hK => ?_) (fun K hK => ?_)
 ·refine callP_ Tryz.func56 (by kernel_rfl) rfl #[ptr R, .int .i64 (wrap64 (d + 1))] (by rfl) rfl rfl (by (try simp only [List.map_toArray, List.map_cons, List.map_nil]); first | done | rfl) ?_
  refine (Calls.err_of (HVal.out b2 _ _ hb4 HE8.out HR2.out (HT8.out _ HO2.out)) rfl).mono ?_
  rintro e w3 ⟨rfl, ho⟩
  exact .inr ⟨_, rfl, rfl, SevEnds.no HX.out (HO8.out.trans (HO2.out.trans ho))⟩
 ·refine value_ (w1 := ?_) (v := ?_) (by rfl) rfl ?_ ?_
  rotate_left 2
  ·go_simp
   constructor
   ·rfl
   ·rfl
  have HO3 := am (HO2.out.alloc (Nat.le_of_lt HRW.out) (Obj.cells #[.int .i64 0, .string ⟨#[]⟩, .slice none 0 0, .slice none 0 0] 25))
  have HR3 := am (HR2.out.below (below_alloc (Below.refl _ _) (Obj.cells #[.int .i64 0, .string ⟨#[]⟩, .slice none 0 0, .slice none 0 0] 25)))
  have HS3 := am (HS.out.on HG.out HO3.out)
  refine hK.out _ _ ⟨(blk_cell HS3.out.v 3).trans rfl, (blk_cell HS3.out.r 0).trans rfl, (blk_cell HS3.out.dd 0).trans rfl⟩ (fun hHeld => ?_)
  clear hK K
  refine norm_ (a' := ?_) ?_ ?_
  rotate_left
  ·show Act.put _ (some 63) _ = _
   simp only [Act.put, sAx, sZx, sSx, i64_w, i32_w]
   rfl
  refine one_ (i := 5) (N := some 61) #[true, true, true, true, true, true, true, true, false, false, false, false, false] rfl rfl (by kernel_rfl) (by decide) (fun K hK => ?_)
  refine callP_ Tryz.func56 (by kernel_rfl) rfl #[ptr R, .int .i64 (wrap64 (d + 1))] (by rfl) rfl rfl (by (try simp only [List.map_toArray, List.map_cons, List.map_nil]); first | done | rfl) ?_
  refine (Calls.err_of (HVal.out b2 _ _ hb4 HE8.out HR3.out (HT8.out _ HO3.out)) rfl).mono ?_
  rintro e w3 ⟨rfl, ho⟩
  exact .inr ⟨_, rfl, rfl, SevEnds.no HX.out (HO8.out.trans (HO3.out.trans ho))⟩
set_option maxRecDepth 1000000 in
set_option maxHeartbeats 4000000 in
theorem obj1_H (R : Nat) (s : ByteArray) (k r V PR PD PM M : Nat) (d p0 : Int) (W0 : World) (hl : s.size ≤ 10000000000) (hR0 : RdB R s p0 W0) (hT : Tabs W0) (hG : OGeo R W0.heap.size V PR PD PM M) (hVal : ValOK R s k r (wrap64 (d + 1)))
  (a : List ByteArray × List J) (q : Nat) (o : Out (List ByteArray × List J)) (W : World) (hq : q ≤ s.size) (h : Inv R s W0 (OI R W0.heap.size V PR PD PM M d) a q W) (h1 : s.data.toList[q]? = some 34) (nm : List UInt8) (q1' : Nat) (h2 : textF s.data.toList k [] (q + 1) = some (.val nm q1')) (hm : nm ∉ a.1.map (fun b => b.data.toList)) (h4 : s.data.toList[blanksF s.data.toList q1']? = some 58) (j : J) (q1 : Nat) (h5 : valueF s.data.toList k r (blanksF s.data.toList (blanksF s.data.toList q1' + 1)) = some (.val j q1)) (hqq : blanksF s.data.toList (blanksF s.data.toList q1' + 1) < q1) (h3 : o = .val (a.1 ++ [bs nm], a.2 ++ [j]) q1) :
  Calls Tryz.prog 143 #[.pointer (some ⟨PR, 0, none⟩), .pointer (some ⟨PM, 0, none⟩), .pointer (some ⟨V, 0, none⟩), .pointer (some ⟨PD, 0, none⟩)] W (SevEnds R s W0 (OI R W0.heap.size V PR PD PM M d) o) := by
 obtain ⟨hR, hO, hlq, hnq, sn, sv, hS⟩ := h
 obtain ⟨A, c, esv⟩ := Kd.R_slice hS.items
 subst esv
 have HT := am (fun (w : World) (ho : On R W0 w) => hT.on hR0 ho)
 have HR := am hR
 have HOW := am hO
 have HS := am hS
 have HG := am hG
 have HRB := am hR0.lt
 have HRW := am hR.lt
 have HVal := am hVal
 have r0 : W.cell? ⟨PR, 0, none⟩ = some (ptr R) := (blk_cell hS.r 0).trans rfl
 have c1 := hR.c1
 clear hR hO hS hR0 hT hVal hG
 have HC := am h1
 have hlt := at_lt' h1
 have hltb := at_lt' h4
 have e34 : (((34 : UInt8).toNat : Int) != 34) = false := by decide
 have e58 : (((58 : UInt8).toNat : Int) != 58) = false := by decide
 have HE := am h2
 have HC2 := am h4
 have ht1 := textF_val _ _ _ _ _ _ h2
 have ht2 := textF_len _ _ _ _ _ _ h2
 rw [size_data] at ht1
 rw [List.length_nil] at ht2
 have HK := am (key_bs nm (by unfold maxLen; omega))
 have hb1 := blanks_ge s.data.toList q1'
 have hb3 := blanks_ge s.data.toList (blanksF s.data.toList q1' + 1)
 have hb4 := blanks_le s.data.toList (blanksF s.data.toList q1' + 1) (by rw [size_data]; omega)
 rw [size_data] at hb4
 have HE8 := am h5
 have HX := am h3
 clear h1 h2 h4 h5 h3
 generalize hg2 : blanksF s.data.toList (blanksF s.data.toList q1' + 1) = b2 at *
 generalize hg1 : blanksF s.data.toList q1' = b1 at *
 have HG1 := am hg1
 have HG2 := am hg2
 clear hg1 hg2
 go_enter Tryz.func143, Tryz.ntmps143
 go_wp2_with (first | (go_at_call 104; (with_reducible refine (peek_ok R s q 34 HC.out _ ?rd1).mono ?_); (case rd1 => exact HR.out); rintro e w1 ⟨rfl, hb⟩; have HR1 := am (HR.out.drawn hb); have HO1 := am ((On.refl R W).drawn hb); have HS1 := am (HS.out.on HG.out HO1.out); have r1 : w1.cell? ⟨PR, 0, none⟩ = some (ptr R) := (blk_cell HS1.out.r 0).trans rfl; have d1 := HR1.out.c1; clear hb) | (go_at_call 107; (with_reducible refine (Calls.val_of (text_calls R s q k _ hl hlt _ ?rd2 ?tb2 HE.out) rfl).mono ?_); (case rd2 => exact HR1.out); (case tb2 => exact HT.out _ (HOW.out.trans HO1.out)); rintro e w2 ⟨v, rfl, hv, hr, ho⟩; subst hv; have HO2 := am (HO1.out.trans ho); have HR2 := am hr; have HS2 := am (HS.out.on HG.out HO2.out); have r2 : w2.cell? ⟨PR, 0, none⟩ = some (ptr R) := (blk_cell HS2.out.r 0).trans rfl; have m2 : w2.cell? ⟨PM, 0, none⟩ = some (.map (some M)) := (blk_cell HS2.out.pm 0).trans rfl; clear hr ho) | (at_lookup; obtain ⟨D, hD1, hD2, hD3⟩ := HS2.out.seen; refine wpList_lookup_own_int _ rfl _ _ 166 rfl 9 3 .i64 key9 Tryz.underlying166 Tryz.underlying3 (zero3 _) M a.1.length D rfl hD2 (.string (bs nm)) (.string nm) rfl HK.out ?_; intro cc hat hwc; rw [hD3 nm, if_neg hm] at hat; injection hat with hat; injection hat with _ hat; subst hat; have HD1 := am hD1; have HD2 := am hD2; have HD3 := am hD3; clear hD1 hD2 hD3 hwc) | (at_mapUpdate; refine wpList_mapUpdate_own _ rfl _ _ _ 166 rfl 9 3 key9 Tryz.underlying166 _ M a.1.length _ rfl HD2.out (by unfold maxLen; omega) _ _ _ rfl rfl HK.out _ [] (plainElem_int Tryz.underlying3 (by decide)) ?_; intro w3 hown3 hg3; have HS3 := am (HS2.out.mapped HD1.out HD3.out hown3 hg3); have HO3 := am ((HOW.out.trans HO2.out).grownRow hg3 (fun b hb => by injection hb with hb; have := HG.out.m; omega) (Nat.le_of_lt HRB.out)); have HR3 := am (show RdB R s q1' w3 from blk_grownM HR2.out HS2.out.seen hg3); have r3 : w3.cell? ⟨PR, 0, none⟩ = some (ptr R) := (blk_cell HS3.out.r 0).trans rfl; clear hown3 hg3) | (go_at_call 55; (with_reducible refine (blanks_calls R s q1' (by omega) (by omega) _ ?rd4).mono ?_); (case rd4 => exact HR3.out); rintro e w4 ⟨rfl, hr, ho⟩; rw [HG1.out] at hr; have HR4 := am hr; have HN4 := am ho; have HO4 := am (HO3.out.trans ho); have HS4 := am (HS3.out.on HG.out ho); have r4 : w4.cell? ⟨PR, 0, none⟩ = some (ptr R) := (blk_cell HS4.out.r 0).trans rfl; clear hr ho) | (go_at_call 104; (with_reducible refine (peek_ok R s b1 58 HC2.out _ ?rd5).mono ?_); (case rd5 => exact HR4.out); rintro e w5 ⟨rfl, hb⟩; have HR5 := am (HR4.out.drawn hb); have HN5 := am ((On.refl R w4).drawn hb); have HO5 := am (HO4.out.drawn hb); have HS5 := am (HS4.out.on HG.out HN5.out); have r5 : w5.cell? ⟨PR, 0, none⟩ = some (ptr R) := (blk_cell HS5.out.r 0).trans rfl; have d5 := HR5.out.c1; have f5 := HR5.out.f1; have r5' : (w5.setCell ⟨R, 1, none⟩ (.int .i64 ((b1 : Int) + 1))).cell? ⟨PR, 0, none⟩ = some (ptr R) := (blk_cell (HS5.out.on HG.out ((On.refl R w5).set 1 (.int .i64 ((b1 : Int) + 1)))).r 0).trans rfl; clear hb) | (go_at_call 55; (with_reducible refine (blanks_calls R s (b1 + 1) (by omega) (by omega) _ ?rd6).mono ?_); (case rd6 => exact HR5.out.set _); rintro e w6 ⟨rfl, hr, ho⟩; rw [HG2.out] at hr; have HR6 := am hr; have HO6 := am ((HO5.out.set 1 _).trans ho); have HS6 := am (HS5.out.on HG.out (((On.refl R w5).set 1 _).trans ho)); obtain ⟨An, cn, en⟩ := Kd.R_slice HS6.out.names; subst en; have v6 : w6.cell? ⟨V, 2, none⟩ = some (.slice An a.1.length cn) := (blk_cell HS6.out.v 2).trans rfl; clear hr ho) | (at_builtin; refine Kd.R_append Kd.string (w0 := w6) W0.heap.size rfl (.tmp 51) (.tmp 53) 22 9 (.string ⟨#[]⟩) 16 rfl Tryz.underlying22 info9 rfl (by decide) (by decide) _ a.1 (bs nm) [.string (bs nm)] (fun k => k ≠ V) (fun _ => False) rfl rfl rfl (fun _ h => h.elim) ?fr7 HS6.out.names ?bl7 ?bs7 (by omega) ?_; (case fr7 => intro k hk; have := lt_of_block HS6.out.v; omega); (case bl7 => exact Below.refl _ _); (case bs7 => exact HO6.out.size); intro v1 w7 hn7 _ hg7 hat7; obtain ⟨A7, c7, e7⟩ := Kd.R_slice hn7; rw [List.length_append, List.length_singleton] at e7; subst e7; have HS7 := am (HS6.out.named hn7 hg7 hat7); have HO7 := am (HO6.out.grownRow hg7 (fun b hb => Kd.R_base HS6.out.names b hb) (Nat.le_of_lt HRB.out)); have HR7 := am (show RdB R s b2 w7 from (hg7.block R HR6.out.lt (fun hh => by have := Kd.R_base HS6.out.names R hh.symm; have := HRB.out; omega)).trans HR6.out); have HV7 := am (blk_grown (o := .cells #[.int .i64 6, .string ⟨#[]⟩, .slice An a.1.length cn, (.slice A a.2.length c)] 25 (0, 0)) HS6.out.v hg7 (Kd.R_away HS6.out.names (fun _ hk => hk))); have v7 : w7.cell? ⟨V, 2, none⟩ = some (.slice An a.1.length cn) := (blk_cell HV7.out 2).trans rfl; have x7 := blk_free HV7.out 2; clear hn7 hg7 hat7))
 have HR8 := am (show RdB R s b2 (w7.setCell ⟨V, 2, none⟩ (.slice A7 (a.1.length + 1) c7)) from (Below.heap_setCell _ _ _ _ (by show R ≠ V; have := HRB.out; have := HG.out.v; omega)).trans HR7.out)
 have HO8 := am (HO7.out.new V 2 (.slice A7 (a.1.length + 1) c7) HG.out.v (Nat.le_of_lt HRB.out))
 clear r0 c1 r1 d1 r2 m2 r3 r4 r5 d5 f5 r5' v6 v7 x7 HR HOW HS HRW
 have HS := HS7
 clear HS7 HR1 HO1 HS1 HO2 HR2 HS2 HD1 HD2 HD3 HS3 HO3 HR3 HR4 HN4 HO4 HS4 HR5 HN5 HO5 HS5 HR6 HO6 HS6 HO7 HR7 HV7 HC HC2 HK HE HG1 HG2 e34 e58
 generalize w7.setCell ⟨V, 2, none⟩ (.slice A7 (a.1.length + 1) c7) = w8 at HS HR8 HO8 ⊢
 have HRW := am HR8.out.lt
 have HT8 := am (fun (w : World) (ho : On R w8 w) => HT.out _ (HO8.out.trans ho))
 refine start_ (n := 13) (S := fun w' => w'.cell? ⟨V, 3, none⟩ = some (.slice A a.2.length c) ∧ w'.cell? ⟨PR, 0, none⟩ = some (ptr R) ∧ w'.cell? ⟨PD, 0, none⟩ = some (.int .i64 d)) (ds := [10, 12]) #[false, false, false, false, false, false, false, false, false, false, false, false, false] (by kernel_rfl) rfl rfl ⟨(blk_cell HS.out.v 3).trans rfl, (blk_cell HS.out.r 0).trans rfl, (blk_cell HS.out.dd 0).trans rfl⟩ (fun hHeld => ?_)
 have HR2 := am (show RdB R s b2 w8.drew from HR8.out.drew)
 have HO2 := am (show On R w8 w8.drew from (On.refl R w8).drewN 1)
 generalize w8.drew = w2 at HR2 HO2 hHeld ⊢
 have HS2 := am (HS.out.on HG.out HO2.out)
 refine pure_ (i := 0) (N := some 56) (v := ?_) (a' := ?_) #[true, false, false, false, false, false, false, false, false, false, false, false, false] rfl rfl (by kernel_rfl) (fun _ _ _ h => h) (Or.inl ⟨by rfl, ?_⟩) ?_ ?_
 rotate_left
 ·intro w'
  go_simp
  with_reducible rfl
 rotate_left
 ·simp only [Act.put, sAx, sZx, sSx, i64_w, i32_w]
  rfl
 refine take_ (i := 1) (N := some 57) (v := ?_) (a' := ?_) #[true, true, false, false, false, false, false, false, false, false, false, false, false] rfl rfl (by kernel_rfl) (fun _ _ _ h => h) (Or.inl ⟨by rfl, ?_⟩) hHeld ?_ ?_
 rotate_left
 ·rintro w' ⟨s0, s1, s2⟩
  go_simp
  with_reducible rfl
 rotate_left
 ·simp only [Act.put, sAx, sZx, sSx, i64_w, i32_w]
  rfl
 refine take_ (i := 2) (N := some 58) (v := ?_) (a' := ?_) #[true, true, true, false, false, false, false, false, false, false, false, false, false] rfl rfl (by kernel_rfl) (fun _ _ _ h => h) (Or.inl ⟨by rfl, ?_⟩) hHeld ?_ ?_
 rotate_left
 ·rintro w' ⟨s0, s1, s2⟩
  go_simp
  with_reducible rfl
 rotate_left
 ·simp only [Act.put, sAx, sZx, sSx, i64_w, i32_w]
  rfl
 refine take_ (i := 3) (N := some 59) (v := ?_) (a' := ?_) #[true, true, true, true, false, false, false, false, false, false, false, false, false] rfl rfl (by kernel_rfl) (fun _ _ _ h => h) (Or.inl ⟨by rfl, ?_⟩) hHeld ?_ ?_
 rotate_left
 ·rintro w' ⟨s0, s1, s2⟩
  go_simp
  with_reducible rfl
 rotate_left
 ·simp only [Act.put, sAx, sZx, sSx, i64_w, i32_w]
  rfl
 refine pure_ (i := 4) (N := some 60) (v := ?_) (a' := ?_) #[true, true, true, true, true, false, false, false, false, false, false, false, false] rfl rfl (by kernel_rfl) (fun _ _ _ h => h) (Or.inl ⟨by rfl, ?_⟩) ?_ ?_
 rotate_left
 ·intro w'
  go_simp
  with_reducible rfl
 rotate_left
 ·simp only [Act.put, sAx, sZx, sSx, i64_w, i32_w]
  rfl
 refine pure_ (i := 6) (N := some 62) (v := ?_) (a' := ?_) #[true, true, true, true, true, false, true, false, false, false, false, false, false] rfl rfl (by kernel_rfl) (fun _ _ _ h => h) (Or.inl ⟨by rfl, ?_⟩) ?_ ?_
 rotate_left
 ·intro w'
  go_simp
  with_reducible rfl
 rotate_left
 ·simp only [Act.put, sAx, sZx, sSx, i64_w, i32_w]
  rfl
 refine join_ (σ := Value × Value × Nat) 5 #[true, true, true, true, true, true, true, true, false, false, false, false, false] (fun s_ => [(61, .agg #[.int .i64 j.f0, .string j.f1, s_.1, s_.2.1]), (63, .slice (some ⟨s_.2.2, 0, none⟩) 1 1)]) (fun s_ w' => RdB R s q1 w' ∧ On R w8 w' ∧ k25.M w' W0.heap.size (fun b => w8.heap.size ≤ b) j [.int .i64 j.f0, .string j.f1, s_.1, s_.2.1] ∧ w'.heap[s_.2.2]? = some (.cells #[.int .i64 0, .string ⟨#[]⟩, .slice none 0 0, .slice none 0 0] 25 (0, 0))) ?_ ?_
 rotate_left
 ·intro hCont
  refine two_ (i := 5) (j := 7) (Ni := some 61) (Nj := some 63) #[true, true, true, true, true, true, true, false, false, false, false, false, false] #[true, true, true, true, true, false, true, true, false, false, false, false, false] rfl rfl rfl rfl (by kernel_rfl) (by decide) (by decide) (fun K hK => ?_) (fun K hK => ?_)
  ·refine callP_ Tryz.func56 (by kernel_rfl) rfl #[ptr R, .int .i64 (wrap64 (d + 1))] (by rfl) rfl rfl (by (try simp only [List.map_toArray, List.map_cons, List.map_nil]); first | done | rfl) ?_
   refine (Calls.val_of (HVal.out b2 _ _ hb4 HE8.out HR2.out (HT8.out _ HO2.out)) rfl).mono ?_
   rintro e w3 ⟨v, rfl, ⟨v2, v3, rfl, g2, g3⟩, hr, ho⟩
   refine .inl ⟨_, rfl, ?_⟩
   have HO3 := am (HO2.out.trans ho)
   have HR3 := am hr
   have HM3 := am (jV_M (B' := W0.heap.size) (N := w8.heap.size) g2 g3 (Nat.le_trans HO8.out.size HO2.out.size) HO2.out.size)
   have HS3 := am (HS.out.on HG.out HO3.out)
   clear hr ho g2 g3
   refine hK.out _ _ ⟨(blk_cell HS3.out.v 3).trans rfl, (blk_cell HS3.out.r 0).trans rfl, (blk_cell HS3.out.dd 0).trans rfl⟩ (fun hHeld => ?_)
   clear hK K
   refine norm_ (a' := ?_) ?_ ?_
   rotate_left
   ·show Act.put _ (some 61) _ = _
    simp only [Act.put, sAx, sZx, sSx, i64_w, i32_w]
    rfl
   refine one_ (i := 7) (N := some 63) #[true, true, true, true, true, true, true, true, false, false, false, false, false] rfl rfl (by kernel_rfl) (by decide) (fun K hK => ?_)
   refine value_ (w1 := ?_) (v := ?_) (by rfl) rfl ?_ ?_
   rotate_left 2
   ·go_simp
    constructor
    ·rfl
    ·rfl
   have HO4 := am (HO3.out.alloc (Nat.le_of_lt HRW.out) (Obj.cells #[.int .i64 0, .string ⟨#[]⟩, .slice none 0 0, .slice none 0 0] 25))
   have HR4 := am (HR3.out.below (below_alloc (Below.refl _ _) (Obj.cells #[.int .i64 0, .string ⟨#[]⟩, .slice none 0 0, .slice none 0 0] 25)))
   have HM4 := am (Kd.M_below HM3.out (below_alloc (Below.refl _ _) (Obj.cells #[.int .i64 0, .string ⟨#[]⟩, .slice none 0 0, .slice none 0 0] 25)))
   have HS4 := am (HS.out.on HG.out HO4.out)
   refine hK.out _ _ ⟨(blk_cell HS4.out.v 3).trans rfl, (blk_cell HS4.out.r 0).trans rfl, (blk_cell HS4.out.dd 0).trans rfl⟩ (fun hHeld => ?_)
   clear hK K
   refine norm_ (a' := ?_) ?_ ?_
   rotate_left
   ·show Act.put _ (some 63) _ = _
    simp only [Act.put, sAx, sZx, sSx, i64_w, i32_w]
    rfl
   exact norm_ (by simp only [putAll, Act.put, sAx, sZx, sSx]) (hCont (v2, v3, w3.heap.size) _ ⟨HR4.out, HO4.out, HM4.out, heap_alloc_new _ _⟩)
  ·refine value_ (w1 := ?_) (v := ?_) (by rfl) rfl ?_ ?_
   rotate_left 2
   ·go_simp
    constructor
    ·rfl
    ·rfl
   have HO3 := am (HO2.out.alloc (Nat.le_of_lt HRW.out) (Obj.cells #[.int .i64 0, .string ⟨#[]⟩, .slice none 0 0, .slice none 0 0] 25))
   have HR3 := am (HR2.out.below (below_alloc (Below.refl _ _) (Obj.cells #[.int .i64 0, .string ⟨#[]⟩, .slice none 0 0, .slice none 0 0] 25)))
   have HG3 := am (heap_alloc_new w2 (Obj.cells #[.int .i64 0, .string ⟨#[]⟩, .slice none 0 0, .slice none 0 0] 25))
   have HS3 := am (HS.out.on HG.out HO3.out)
   refine hK.out _ _ ⟨(blk_cell HS3.out.v 3).trans rfl, (blk_cell HS3.out.r 0).trans rfl, (blk_cell HS3.out.dd 0).trans rfl⟩ (fun hHeld => ?_)
   clear hK K
   refine norm_ (a' := ?_) ?_ ?_
   rotate_left
   ·show Act.put _ (some 63) _ = _
    simp only [Act.put, sAx, sZx, sSx, i64_w, i32_w]
    rfl
   refine one_ (i := 5) (N := some 61) #[true, true, true, true, true, true, true, true, false, false, false, false, false] rfl rfl (by kernel_rfl) (by decide) (fun K hK => ?_)
   refine callP_ Tryz.func56 (by kernel_rfl) rfl #[ptr R, .int .i64 (wrap64 (d + 1))] (by rfl) rfl rfl (by (try simp only [List.map_toArray, List.map_cons, List.map_nil]); first | done | rfl) ?_
   refine (Calls.val_of (HVal.out b2 _ _ hb4 HE8.out HR3.out (HT8.out _ HO3.out)) rfl).mono ?_
   rintro e w4 ⟨v, rfl, ⟨v2, v3, rfl, g2, g3⟩, hr, ho⟩
   refine .inl ⟨_, rfl, ?_⟩
   have HO4 := am (HO3.out.trans ho)
   have HR4 := am hr
   have HM4 := am (jV_M (B' := W0.heap.size) (N := w8.heap.size) g2 g3 (Nat.le_trans HO8.out.size HO3.out.size) HO3.out.size)
   have HS4 := am (HS.out.on HG.out HO4.out)
   have HG4 := am (blk_on HG3.out (by have := HO2.out.size; have := HRW.out; omega) ho)
   clear hr ho g2 g3
   refine hK.out _ _ ⟨(blk_cell HS4.out.v 3).trans rfl, (blk_cell HS4.out.r 0).trans rfl, (blk_cell HS4.out.dd 0).trans rfl⟩ (fun hHeld => ?_)
   clear hK K
   refine norm_ (a' := ?_) ?_ ?_
   rotate_left
   ·show Act.put _ (some 61) _ = _
    simp only [Act.put, sAx, sZx, sSx, i64_w, i32_w]
    rfl
   exact norm_ (by simp only [putAll, Act.put, sAx, sZx, sSx]) (hCont (v2, v3, w2.heap.size) _ ⟨HR4.out, HO4.out, HM4.out, HG4.out⟩)
 ·rintro ⟨v2, v3, g⟩ w5 ⟨hR5, hO5, hM5, hG5⟩
  dsimp only at hM5 hG5
  obtain ⟨A2, c2, A3, c3, e2, e3⟩ := M_slices hM5
  subst e2 e3
  simp only [putAll, Act.put, sAx, sZx, sSx]
  have HR5 := am hR5
  have HO5 := am hO5
  have HM5 := am hM5
  have HG5 := am hG5
  have HS5 := am (HS.out.on HG.out hO5)
  clear hR5 hO5 hM5 hG5 HR2 HO2 HS2 hHeld
  have hI5 := HS5.out.items
  obtain ⟨inner, hown, hrep⟩ := hI5.2
  have HIN := am (show w5.ownsRow W0.heap.size 25 4 (.slice A a.2.length c) a.2.length inner from hown)
  have HRP := am hrep
  have hil : inner.length = a.2.length * 4 := hrep.1
  have HI5 := am hI5
  clear hown hrep hI5
  refine one_ (i := 8) (N := some 64) #[true, true, true, true, true, true, true, true, true, false, false, false, false] rfl rfl (by kernel_rfl) (by decide) (fun K hK => ?_)
  refine app0_step (B := W0.heap.size) rfl (.tmp 57) (.tmp 63) 23 25 (.agg #[(.int .i64 0), (.string ⟨#[]⟩), (.slice none 0 0), (.slice none 0 0)]) 4 72 rfl Tryz.underlying23 info25 rfl (by decide) (by decide) (.slice A a.2.length c) a.2.length inner [.int .i64 0, .string ⟨#[]⟩, .slice none 0 0, .slice none 0 0] g rfl rfl rfl (by intro u hu; simp only [List.mem_cons, List.not_mem_nil, or_false] at hu; rcases hu with rfl | rfl | rfl | rfl <;> rfl) HG5.out HIN.out (Nat.le_trans HO8.out.size HO5.out.size) (by omega) ?_
  intro v1 w6 hown1 hg hat
  obtain ⟨g1, c1, e1⟩ := own_form hown1 (by omega)
  subst e1
  have HON := am hown1
  have HAT := am hat
  have HGR := am hg
  have HV6 := am (blk_grown (o := .cells #[.int .i64 6, .string ⟨#[]⟩, .slice A7 (a.1.length + 1) c7, .slice A a.2.length c] 25 (0, 0)) HS5.out.v hg (Kd.R_away HI5.out (fun _ hk => hk.1)))
  have HP6 := am (blk_grown (o := .cells #[ptr R] 105 (0, 0)) HS5.out.r hg (Kd.R_ne HI5.out HS5.out.r (by decide)))
  have HD6 := am (blk_grown (o := .cells #[.int .i64 d] 3 (0, 0)) HS5.out.dd hg (Kd.R_ne HI5.out HS5.out.dd (by decide)))
  have HM6 := am (blk_grown (o := .cells #[.map (some M)] 166 (0, 0)) HS5.out.pm hg (Kd.R_ne HI5.out HS5.out.pm (by decide)))
  have HSE6 := am (HS5.out.seen.move (hg.block M HS5.out.seen.lt (seen_row HI5.out HS5.out.seen)))
  have HN6 := am (Kd.R_over' HS5.out.names (Kd.R_typed HI5.out) (by decide) hg)
  have HO6 := am (HO8.out.trans HO5.out |>.grownRow hg (fun b hb => Kd.R_base HI5.out b hb) (Nat.le_of_lt HRB.out))
  have HR6 := am (show RdB R s q1 w6 from (hg.block R HR5.out.lt (fun hh => by have := Kd.R_base HI5.out R hh.symm; have := HRB.out; omega)).trans HR5.out)
  have hV1 : g1 ≠ V := by
   intro hgv
   rcases HAT.out with ha | ha
   ·exact Kd.R_away HI5.out (fun _ hk => hk.1) (hgv ▸ ha)
   ·have ha : some g1 = some w5.heap.size := ha
    injection ha with ha
    have := lt_of_block HS5.out.v
    omega
  have hgR : g1 ≠ R := by
   have h1 := own_base hown1 g1 rfl
   have := HRB.out
   omega
  have z0 : w6.cell? ⟨g1, a.2.length * 4, none⟩ = some (.int .i64 0) := (hown1.cellAt (a.2.length * 4) (by omega)).trans (getz inner a.2.length hil 0 (by omega))
  have z1 : w6.cell? ⟨g1, a.2.length * 4 + 1, none⟩ = some (.string ⟨#[]⟩) := (hown1.cellAt (a.2.length * 4 + 1) (by omega)).trans (getz inner a.2.length hil 1 (by omega))
  have z2 : w6.cell? ⟨g1, a.2.length * 4 + 2, none⟩ = some (.slice none 0 0) := (hown1.cellAt (a.2.length * 4 + 2) (by omega)).trans (getz inner a.2.length hil 2 (by omega))
  have z3 : w6.cell? ⟨g1, a.2.length * 4 + 3, none⟩ = some (.slice none 0 0) := (hown1.cellAt (a.2.length * 4 + 3) (by omega)).trans (getz inner a.2.length hil 3 (by omega))
  have y0 := hown1.frozenAt (a.2.length * 4)
  have y1 := hown1.frozenAt (a.2.length * 4 + 1)
  have y2 := hown1.frozenAt (a.2.length * 4 + 2)
  have y3 := hown1.frozenAt (a.2.length * 4 + 3)
  have x3 : w6.cell? ⟨V, 3, none⟩ = some (.slice A a.2.length c) := (blk_cell HV6.out 3).trans rfl
  have hV2 : V ≠ g1 := Ne.symm hV1
  have xf := blk_free HV6.out 3
  clear hown1 hg hat
  refine hK.out _ _ ⟨(blk_cell HV6.out 3).trans rfl, (blk_cell HP6.out 0).trans rfl, (blk_cell HD6.out 0).trans rfl⟩ (fun hHeld => ?_)
  clear hK K
  refine norm_ (a' := ?_) ?_ ?_
  rotate_left
  ·show Act.put _ (some 64) _ = _
   simp only [Act.put, sAx, sZx, sSx, i64_w, i32_w]
   rfl
  have b0 : (0 : Int) ≤ (a.2.length : Int) := by omega
  have b1 : (a.2.length : Int) < ((a.2.length + 1 : Nat) : Int) := by omega
  have b2 : (a.2.length : Int) < (a.2.length : Int) + 1 := by omega
  refine pure_ (i := 9) (N := some 65) (v := ?_) (a' := ?_) #[true, true, true, true, true, true, true, true, true, true, false, false, false] rfl rfl (by kernel_rfl) (fun _ _ _ h => h) (Or.inl ⟨by rfl, ?_⟩) ?_ ?_
  rotate_left
  ·intro w'
   go_simp
   with_reducible rfl
  rotate_left
  ·simp only [Act.put, sAx, sZx, sSx, i64_w, i32_w]
   rfl
  refine pure_ (i := 11) (N := some 66) (v := ?_) (a' := ?_) #[true, true, true, true, true, true, true, true, true, true, false, true, false] rfl rfl (by kernel_rfl) (fun _ _ _ h => h) (Or.inl ⟨by rfl, ?_⟩) ?_ ?_
  rotate_left
  ·intro w'
   go_simp
   with_reducible rfl
  rotate_left
  ·simp only [Act.put, sAx, sZx, sSx, i64_w, i32_w]
   rfl
  have FIN := am (items_fin (j := j) (ok := fun k => k ≠ V ∧ some k ≠ Value.ownBlock (.slice A7 (a.1.length + 1) c7)) (fun _ hk => hk.1) rfl HRB.out HG.out.v (lt_of_block HS.out.v) HS.out.items (fun k hk => ⟨by have := lt_of_block HS.out.v; omega, fun hh => by have := Kd.R_lt HS.out.names k hh.symm; omega⟩) HO5.out HRP.out hil HI5.out.1 HM5.out HON.out HGR.out HAT.out HV6.out HO6.out HR6.out hV1)
  refine twoL_ (i := 10) (j := 12) (Ni := none) (Nj := none) #[true, true, true, true, true, true, true, true, true, true, true, true, false] #[true, true, true, true, true, true, true, true, true, true, false, true, true] rfl rfl rfl rfl (by kernel_rfl) (by decide) (by decide) (fun K hK => ?_) (fun K hK => ?_)
  ·refine skip_ (w1 := ?_) (by rfl) rfl ?_ ?_
   rotate_left
   ·go_simp
    rfl
   refine hK.out _ _ ?_
   clear hK K
   refine last_ (i := 12) (N := none) #[true, true, true, true, true, true, true, true, true, true, true, true, true] rfl rfl (by kernel_rfl) (by decide) (fun K hK => ?_)
   refine skip_ (w1 := ?_) (by rfl) rfl ?_ ?_
   rotate_left
   ·go_simp
    rfl
   refine hK.out _ _ ?_
   clear hK K
   refine done_ (by kernel_rfl) ?_
   try go_wp2
   go_end0
   exact SevEnds.ok HX.out (OI_final (a := (a.1 ++ [bs nm], a.2)) HON.out HV6.out HP6.out HD6.out HM6.out HSE6.out HN6.out (by show a.2.length + 1 ≤ q1; omega) (by show (a.1 ++ [bs nm]).length ≤ q1; rw [List.length_append, List.length_singleton]; omega) FIN.out)
  ·refine skip_ (w1 := ?_) (by rfl) rfl ?_ ?_
   rotate_left
   ·go_simp
    rfl
   refine hK.out _ _ ?_
   clear hK K
   refine last_ (i := 10) (N := none) #[true, true, true, true, true, true, true, true, true, true, true, true, true] rfl rfl (by kernel_rfl) (by decide) (fun K hK => ?_)
   refine skip_ (w1 := ?_) (by rfl) rfl ?_ ?_
   rotate_left
   ·go_simp
    rfl
   refine hK.out _ _ ?_
   clear hK K
   refine done_ (by kernel_rfl) ?_
   try go_wp2
   go_end0
   have hcm := set4W_comm w6 V g1 a.2.length (.slice (some ⟨g1, 0, none⟩) (a.2.length + 1) c1) (.int .i64 j.f0) (.string j.f1) (.slice A2 j.f2.length c2) (.slice A3 j.f3.length c3) hV1
   have hfin := OI_final (a := (a.1 ++ [bs nm], a.2)) HON.out HV6.out HP6.out HD6.out HM6.out HSE6.out HN6.out (by show a.2.length + 1 ≤ q1; omega) (by show (a.1 ++ [bs nm]).length ≤ q1; rw [List.length_append, List.length_singleton]; omega) FIN.out
   rw [← hcm] at hfin
   exact SevEnds.ok HX.out hfin
theorem obj1_calls (R : Nat) (s : ByteArray) (k r V PR PD PM M : Nat) (d p0 : Int) (W0 : World) (hl : s.size ≤ 10000000000) (hR0 : RdB R s p0 W0) (hT : Tabs W0) (hG : OGeo R W0.heap.size V PR PD PM M) (hVal : ValOK R s k r (wrap64 (d + 1)))
  (a : List ByteArray × List J) (q : Nat) (o : Out (List ByteArray × List J)) (W : World) (hq : q ≤ s.size) (hF : oneM (valueF s.data.toList k r) s.data.toList k a q = some o) (h : Inv R s W0 (OI R W0.heap.size V PR PD PM M d) a q W) :
  Calls Tryz.prog 143 #[.pointer (some ⟨PR, 0, none⟩), .pointer (some ⟨PM, 0, none⟩), .pointer (some ⟨V, 0, none⟩), .pointer (some ⟨PD, 0, none⟩)] W (SevEnds R s W0 (OI R W0.heap.size V PR PD PM M d) o) := by
 rcases oneM_item _ _ _ _ _ _ hF with ⟨h1, h2⟩ | ⟨c, h1, h34, h2⟩ | ⟨h1, ⟨e, p, h2, h3⟩ | ⟨nm, q1, h2, ⟨hm, h3⟩ | ⟨hm, ⟨h4, h3⟩ | ⟨c, h4, h58, h3⟩ | ⟨h4, ⟨e, p, h5, h3⟩ | ⟨x, q2, h5, h3⟩⟩⟩⟩⟩
 ·exact obj1_A R s k r V PR PD PM M d p0 W0 hl hR0 hT hG hVal a q o W hq h h1 h2
 ·exact obj1_B R s k r V PR PD PM M d p0 W0 hl hR0 hT hG hVal a q o W hq h c h1 h34 h2
 ·exact obj1_C R s k r V PR PD PM M d p0 W0 hl hR0 hT hG hVal a q o W hq h h1 e p h2 h3
 ·exact obj1_D R s k r V PR PD PM M d p0 W0 hl hR0 hT hG hVal a q o W hq h h1 nm q1 h2 hm h3
 ·exact obj1_E R s k r V PR PD PM M d p0 W0 hl hR0 hT hG hVal a q o W hq h h1 nm q1 h2 hm h4 h3
 ·exact obj1_F R s k r V PR PD PM M d p0 W0 hl hR0 hT hG hVal a q o W hq h h1 nm q1 h2 hm c h4 h58 h3
 ·exact obj1_G R s k r V PR PD PM M d p0 W0 hl hR0 hT hG hVal a q o W hq h h1 nm q1 h2 hm h4 e p h5 h3
 ·refine obj1_H R s k r V PR PD PM M d p0 W0 hl hR0 hT hG hVal a q o W hq h h1 nm q1 h2 hm h4 x q2 h5 (valueF_val _ _ _ _ _ _ ?_ h5).1 h3
  have := (List.getElem?_eq_some_iff.1 h4).1
  exact blanks_le _ _ (by omega)
end Go.Proofs.YtpdelcbkcebkpaaGreatDoor.X
namespace Go.Proofs.YtpdelcbkcebkpaaGreatDoor.X
open Go.RowKit Go.Lib Go.Proofs.YtpdelcbkcebkpaaGreatDoorW.PrintWords Go.Proofs.YtpdelcbkcebkpaaGreatDoorW.PrintLast Go.Proofs.YtpdelcbkcebkpaaGreatDoorW.PrintMore
abbrev oV : Obj := Obj.cells #[.int .i64 6, .string ⟨#[]⟩, .slice none 0 0, .slice none 0 0] 25
abbrev oW (W0 : World) (n : Nat) : World := ((W0.alloc oV).alloc (.map #[] 0)).alloc (Obj.cells #[.map (some n)] 166)
def objEnd (R : Nat) (s : ByteArray) (W : World) (o : Out (List ByteArray × List J)) (x : Ending) (W' : World) : Prop :=
 On R W W' ∧ match o with
  | .val a q => x = .returned (.tuple #[]) ∧ RdB R s q W' ∧ ∃ sn sv, W'.heap[W.heap.size + 1 + 1 + 1]? = some (.cells #[.int .i64 6, .string ⟨#[]⟩, sn, sv] 25 (0, 0)) ∧ Kd.string.R 9 W' W.heap.size (fun k => k ≠ W.heap.size + 1 + 1) sn a.1 ∧ k25.R 25 W' W.heap.size (fun k => some k ≠ sn.ownBlock ∧ k ≠ W.heap.size + 1 + 1) sv a.2 ∧
    W'.heap[W.heap.size + 1 + 1]? = some (.cells #[.int .i64 0, .string ⟨#[]⟩, .slice none 0 0, .slice none 0 0] 25 (0, 0))
  | .err e q => x = pan e q
theorem OI_hI {R V PR PD PM M : Nat} {d : Int} {W0 : World} (g : OGeo R W0.heap.size V PR PD PM M) : ∀ a q q' W W', q ≤ q' → OI R W0.heap.size V PR PD PM M d a q W → On R W W' → OI R W0.heap.size V PR PD PM M d a q' W' :=
 fun _ _ _ _ _ hq h hO => OI.on hq h g hO
theorem obj_sev (R : Nat) (s : ByteArray) (k r : Nat) (d : Int) (p : Nat) (W : World) (hl : s.size ≤ 10000000000) (h : RdB R s p W) (hT : Tabs W) (hp : p < s.size) (hVal : ValOK R s k r (wrap64 (d + 1)))
  (o : Out (List ByteArray × List J)) (hF : sevF (oneM (valueF s.data.toList k r) s.data.toList k) s.data.toList 125 k ([], []) p = some o) :
  Calls Tryz.prog 141 #[ptr R, .int .u8 125, .func (.func 143) #[] #[.pointer (some ⟨W.heap.size, 0, none⟩), .pointer (some ⟨W.heap.size + 1 + 1 + 1 + 1 + 1, 0, none⟩), .pointer (some ⟨W.heap.size + 1 + 1 + 1, 0, none⟩), .pointer (some ⟨W.heap.size + 1, 0, none⟩)]]
   (oW (lW0 R d W) (W.heap.size + 1 + 1 + 1 + 1)) (objEnd R s W o) := by
 have hR := h.lt
 have hb0 := lW0_below R d W
 have hs0 := lW0_size R d W
 obtain ⟨b1, b2, b3⟩ := lW0_boxes R d W
 have hO0 : On R W (lW0 R d W) := On.of_below (Nat.le_of_lt hR) hb0
 have hR0 : RdB R s p (lW0 R d W) := h.below hb0
 have hT0 : Tabs (lW0 R d W) := hT.on h hO0
 generalize hW0 : lW0 R d W = W0 at *
 have hb1 : Below W0.heap.size W0 (oW W0 (W.heap.size + 1 + 1 + 1 + 1)) := below_alloc (below_alloc (below_alloc (Below.refl _ _) _) _) _
 have hO1 : On R W0 (oW W0 (W.heap.size + 1 + 1 + 1 + 1)) := On.of_below (by omega) hb1
 have hV := heap_alloc_new W0 oV
 have e1 : (W0.alloc oV).heap.size = W.heap.size + 1 + 1 + 1 + 1 := by simp [hs0]
 have e2 : ((W0.alloc oV).alloc (.map #[] 0)).heap.size = W.heap.size + 1 + 1 + 1 + 1 + 1 := by simp [hs0]
 have hM := Seen.made (W0.alloc oV)
 have hPM := heap_alloc_new ((W0.alloc oV).alloc (.map #[] 0)) (Obj.cells #[.map (some (W.heap.size + 1 + 1 + 1 + 1))] 166)
 rw [hs0] at hV
 rw [e1] at hM
 rw [e2] at hPM
 have hMlt := hM.lt
 have hG : OGeo R W0.heap.size (W.heap.size + 1 + 1 + 1) W.heap.size (W.heap.size + 1) (W.heap.size + 1 + 1 + 1 + 1 + 1) (W.heap.size + 1 + 1 + 1 + 1) := ⟨by omega, by omega, by omega, by omega, by omega, by omega⟩
 have key := sevObj_calls R s 125 (oneM (valueF s.data.toList k r) s.data.toList k) (OI R W0.heap.size (W.heap.size + 1 + 1 + 1) W.heap.size (W.heap.size + 1) (W.heap.size + 1 + 1 + 1 + 1 + 1) (W.heap.size + 1 + 1 + 1 + 1) d) W0 (.pointer (some ⟨W.heap.size, 0, none⟩)) (.pointer (some ⟨W.heap.size + 1 + 1 + 1 + 1 + 1, 0, none⟩)) (.pointer (some ⟨W.heap.size + 1 + 1 + 1, 0, none⟩)) (.pointer (some ⟨W.heap.size + 1, 0, none⟩)) hl
  (OI_hI hG)
  (fun a q a' q' hq h1 => by
   have := oneM_val s.data.toList k _ (fun q j q' hq hv => valueF_val _ _ _ _ _ _ hq hv) a q a' q' (by rw [size_data]; exact hq) h1
   rw [size_data] at this
   exact this.2)
  (fun a q o W hq h1 h2 => obj1_calls R s k r _ _ _ _ _ d p W0 hl hR0 hT0 hG hVal a q o W hq h1 h2)
  k ([], []) p o hp _ ⟨hR0.below hb1, hO1, Nat.zero_le _, Nat.zero_le _, _, _, ⟨Below.alloc_at (Below.alloc_at hV), Below.alloc_at (Below.alloc_at (Below.alloc_at b1)), Below.alloc_at (Below.alloc_at (Below.alloc_at b2)), hPM, hM.move ((below_alloc (Below.refl _ _) _).block _ hMlt), Kd.R_nil _ _ _ _ _, Kd.R_nil _ _ _ _ _⟩⟩ hF
 refine key.mono fun x W' hh => ?_
 cases o with
 | val a q =>
  obtain ⟨hx, h1, h2, _, _, sn, sv, h3⟩ := hh
  refine ⟨hO0.trans h2, hx, h1, sn, sv, h3.v, Kd.R_lower (Kd.R_mono (Kd.R_bound h3.names) (fun k hk => by have := hk.2.1; omega)) (by omega), Kd.R_lower (Kd.R_mono (Kd.R_bound h3.items) (fun k hk => ⟨hk.1.2, by have := hk.2.1; omega⟩)) (by omega), blk_on b3 (by omega) h2⟩
 | err e q => exact ⟨hO0.trans hh.2, hh.1⟩
set_option maxRecDepth 1000000 in
set_option maxHeartbeats 4000000 in
theorem object_calls (R : Nat) (s : ByteArray) (k r : Nat) (d : Int) (p : Nat) (W : World) (hl : s.size ≤ 10000000000) (h : RdB R s p W) (hT : Tabs W) (hp : p < s.size) (hVal : ValOK R s k r (wrap64 (d + 1)))
  (o : Out (List ByteArray × List J)) (hF : sevF (oneM (valueF s.data.toList k r) s.data.toList k) s.data.toList 125 k ([], []) p = some o) :
  Calls Tryz.prog 109 #[ptr R, .int .i64 d] W (Ends R s W (o.map fun a => (⟨6, bsJ [], a.1, a.2⟩ : J)) (jV W.heap.size)) := by
 have key := am (obj_sev R s k r d p W hl h hT hp hVal o hF)
 have hRW := h.lt
 have hmm := @run_makeMap Tryz.prog
 clear hT hF hVal h
 cases o with
 | err e q =>
  go_enter Tryz.func109, Tryz.ntmps109
  go_wp2_with (go_at_call 141; (with_reducible refine (key.out).mono ?_); rintro e w1 ⟨ho, rfl⟩; have HO := am ho; clear ho)
  exact ⟨rfl, Ends.no rfl HO.out⟩
 | val a q =>
  go_enter Tryz.func109, Tryz.ntmps109
  go_wp2_with (go_at_call 141; (with_reducible refine (key.out).mono ?_); rintro e w1 ⟨ho, rfl, hr, sn, sv, hv, hn, hi, hb⟩; have HO := am ho; have HR := am hr; have HI := am hi; have HB := am hb; have HV := am hv; obtain ⟨A, c, e3⟩ := Kd.R_slice hi; subst e3; obtain ⟨A2, c2, e2⟩ := Kd.R_slice hn; subst e2; have HN := am hn; have v0 : w1.cell? ⟨W.heap.size + 1 + 1 + 1, 0, none⟩ = some (.int .i64 6) := (blk_cell hv 0).trans rfl; have v1 : w1.cell? ⟨W.heap.size + 1 + 1 + 1, 1, none⟩ = some (.string ⟨#[]⟩) := (blk_cell hv 1).trans rfl; have v2 : w1.cell? ⟨W.heap.size + 1 + 1 + 1, 2, none⟩ = some (.slice A2 a.1.length c2) := (blk_cell hv 2).trans rfl; have v3 : w1.cell? ⟨W.heap.size + 1 + 1 + 1, 3, none⟩ = some (.slice A a.2.length c) := (blk_cell hv 3).trans rfl; have r0 : w1.cell? ⟨W.heap.size + 1 + 1, 0, none⟩ = some (.int .i64 0) := (blk_cell hb 0).trans rfl; have r1 : w1.cell? ⟨W.heap.size + 1 + 1, 1, none⟩ = some (.string ⟨#[]⟩) := (blk_cell hb 1).trans rfl; have r2 : w1.cell? ⟨W.heap.size + 1 + 1, 2, none⟩ = some (.slice none 0 0) := (blk_cell hb 2).trans rfl; have r3 : w1.cell? ⟨W.heap.size + 1 + 1, 3, none⟩ = some (.slice none 0 0) := (blk_cell hb 3).trans rfl; have f0 := blk_free hb 0; have f1 := blk_free hb 1; have f2 := blk_free hb 2; have f3 := blk_free hb 3; clear ho hr hv hi hb hn)
  refine bodyPost_ret (results_cell_row rfl _ _ (W.heap.size + 1 + 1) 25 #[.int .i64 6, .string ⟨#[]⟩, .slice A2 a.1.length c2, .slice A a.2.length c] (0, 0) _ rfl (blk4 HB.out _ _ _ _) Tryz.underlying25 rfl (by kernel_rfl)) rfl ?_
  have hR1 := set4_ends (b := W.heap.size + 1 + 1) HR.out HO.out hRW (by omega) (.int .i64 6) (.string ⟨#[]⟩) (.slice A2 a.1.length c2) (.slice A a.2.length c)
  refine Ends.ok rfl ⟨.slice A2 a.1.length c2, .slice A a.2.length c, rfl, ?_, ?_⟩ hR1.1 hR1.2
  ·exact Kd.R_mono (Kd.R_far (p := ⟨W.heap.size + 1 + 1, 3, none⟩) (Kd.R_far (p := ⟨W.heap.size + 1 + 1, 2, none⟩) (Kd.R_far (p := ⟨W.heap.size + 1 + 1, 1, none⟩) (Kd.R_far (p := ⟨W.heap.size + 1 + 1, 0, none⟩) HN.out (fun _ hk => hk) _) (fun _ hk => hk) _) (fun _ hk => hk) _) (fun _ hk => hk) _) (fun _ _ => trivial)
  ·exact Kd.R_mono (Kd.R_far (p := ⟨W.heap.size + 1 + 1, 3, none⟩) (Kd.R_far (p := ⟨W.heap.size + 1 + 1, 2, none⟩) (Kd.R_far (p := ⟨W.heap.size + 1 + 1, 1, none⟩) (Kd.R_far (p := ⟨W.heap.size + 1 + 1, 0, none⟩) HI.out (fun _ hk => hk.2) _) (fun _ hk => hk.2) _) (fun _ hk => hk.2) _) (fun _ hk => hk.2) _) (fun _ hk => hk.1)
theorem Kd.R_far4 {α : Type} {dd : Kd α} {e B b : Nat} {w : World} {ok : Nat → Prop} {v : Value} {l : List α} (h : dd.R e w B ok v l) (hb : ∀ k, ok k → k ≠ b) (c0 c1 c2 c3 : Value) :
  dd.R e ((((w.setCell ⟨b, 0, none⟩ c0).setCell ⟨b, 1, none⟩ c1).setCell ⟨b, 2, none⟩ c2).setCell ⟨b, 3, none⟩ c3) B ok v l :=
 Kd.R_far (Kd.R_far (Kd.R_far (Kd.R_far h (p := ⟨b, 0, none⟩) hb _) (p := ⟨b, 1, none⟩) hb _) (p := ⟨b, 2, none⟩) hb _) (p := ⟨b, 3, none⟩) hb _
theorem value_end {R : Nat} {s : ByteArray} {q : Nat} {W w1 : World} {o : Out J} {j : J} {v2 v3 : Value} (ho : o = .val j q) (hR : RdB R s q w1) (hO : On R (W.alloc zJ) w1) (hRW : R < W.heap.size)
  (g2 : Kd.string.R 9 w1 (W.heap.size + 1) (fun _ => True) v2 j.f2) (g3 : k25.R 25 w1 (W.heap.size + 1) (fun k => some k ≠ v2.ownBlock) v3 j.f3) :
  Ends R s W o (jV W.heap.size) (.returned (.agg #[.int .i64 j.f0, .string j.f1, v2, v3])) ((((w1.setCell ⟨W.heap.size, 0, none⟩ (.int .i64 j.f0)).setCell ⟨W.heap.size, 1, none⟩ (.string j.f1)).setCell ⟨W.heap.size, 2, none⟩ v2).setCell ⟨W.heap.size, 3, none⟩ v3) := by
 have hO1 : On R W w1 := (On.of_below (Nat.le_of_lt hRW) (below_alloc (Below.refl _ _) _)).trans hO
 have h1 := set4_ends (b := W.heap.size) hR hO1 hRW (Nat.le_refl _) (.int .i64 j.f0) (.string j.f1) v2 v3
 refine Ends.ok ho ⟨v2, v3, rfl, ?_, ?_⟩ h1.1 h1.2
 ·exact Kd.R_mono (Kd.R_far4 (Kd.R_lower (Kd.R_bound g2) (Nat.le_succ _)) (b := W.heap.size) (fun k hk => by have := hk.2.1; omega) _ _ _ _) (fun _ _ => trivial)
 ·exact Kd.R_mono (Kd.R_far4 (Kd.R_lower (Kd.R_bound g3) (Nat.le_succ _)) (b := W.heap.size) (fun k hk => by have := hk.2.1; omega) _ _ _ _) (fun _ hk => hk.1)
theorem below_base {α : Type} {dd : Kd α} {e R n : Nat} {W1 W2 w : World} {ok : Nat → Prop} {v : Value} {l : List α} (hs : W1.heap.size = n) (hO : On R W1 W2) (h : dd.R e w W2.heap.size ok v l) : dd.R e w n ok v l :=
 Kd.R_lower h (by have := hO.size; omega)
set_option maxRecDepth 1000000 in
set_option maxHeartbeats 8000000 in
theorem value_step (R : Nat) (s : ByteArray) (k r : Nat) (hl : s.size ≤ 10000000000) (hr : r ≤ 32) (IH : ∀ r', r' + 1 = r → ValOK R s k r' (32 - (r' : Int))) : ValOK R s k r (32 - (r : Int)) := by
 intro p o W hp hF h hT
 have HR1 := am (show RdB R s p (W.alloc zJ) from h.below (below_alloc (Below.refl _ _) _))
 have HRW := am h.lt
 have hRB : W.heap.size ≠ R := by have := h.lt; omega
 have HB := am (heap_alloc_new W zJ)
 have HT := am (fun (w : World) (ho : On R (W.alloc zJ) w) => hT.on h ((On.of_below (Nat.le_of_lt h.lt) (below_alloc (Below.refl _ _) _)).trans ho))
 have HOW := am (show On R W (W.alloc zJ) from On.of_below (Nat.le_of_lt h.lt) (below_alloc (Below.refl _ _) _))
 have esz : (W.alloc zJ).heap.size = W.heap.size + 1 := by simp
 clear h hT
 unfold valueF at hF
 cases hc : s.data.toList[p]? with
 | none =>
  rw [hc] at hF
  have hps : s.size ≤ p := by rw [List.getElem?_eq_none_iff, size_data] at hc; exact hc
  have HX := am (show o = .err 3 s.size by injection hF with hF; rw [← hF, size_data])
  clear hc hF
  go_enter Tryz.func56, Tryz.ntmps56
  go_wp2_with (go_at_call 104; (with_reducible refine (peek_short R s p hps _ ?rd).mono ?_); (case rd => exact HR1.out); rintro e w1 ⟨rfl, hb⟩; have HB := am hb; clear hb)
  exact ⟨rfl, Ends.no HX.out (HOW.out.drawn HB.out)⟩
 | some c =>
  rw [hc] at hF
  simp only at hF
  have HC := am hc
  have hlt := at_lt' hc
  have hu := c.toNat_lt
  clear hc
  by_cases h110 : c = 110
  ·rw [if_pos h110] at hF
   have e110 : ((c.toNat : Int) == 110) = true := (beq_u8 c 110 (by omega)).trans (decide_eq_true h110)
   clear h110
   cases hs : wordF s.data.toList [110, 117, 108, 108] p with
   | err e q =>
    have HX := am (show o = .err e q by rw [hs] at hF; injection hF with hF; exact hF.symm)
    have HS := am (show wordF s.data.toList (ByteArray.data ⟨#[110, 117, 108, 108]⟩).toList p = .err e q from hs)
    clear hs hF
    go_enter Tryz.func56, Tryz.ntmps56
    go_wp2_with (first | (go_at_call 104; (with_reducible refine (peek_ok R s p c HC.out _ ?rd1x1).mono ?_); (case rd1x1 => exact HR1.out); rintro e w1 ⟨rfl, hb⟩; have HR2 := am (HR1.out.drawn hb); have HN2 := am ((On.refl R (W.alloc zJ)).drawn hb); have d2 := HR2.out.c1; clear hb) | (go_at_call 105; (with_reducible refine (Calls.err_of (word_calls R s ⟨#[110, 117, 108, 108]⟩ p (by have hz : ByteArray.size ⟨#[110, 117, 108, 108]⟩ = 4 := rfl; rw [hz]; omega) (by omega) _ ?rdy2) HS.out).mono ?_); (case rdy2 => exact HR2.out); rintro e w3 ⟨rfl, ho⟩; have HN3 := am (HN2.out.trans ho); clear ho))
    exact ⟨rfl, Ends.no HX.out (HOW.out.trans HN3.out)⟩
   | val u q =>
    have HX := am (show o = .val (⟨0, bsJ [], [], []⟩ : J) q by rw [hs] at hF; injection hF with hF; exact hF.symm)
    have HS := am (show wordF s.data.toList (ByteArray.data ⟨#[110, 117, 108, 108]⟩).toList p = .val u q from hs)
    clear hs hF
    go_enter Tryz.func56, Tryz.ntmps56
    go_wp2_with (first | (go_at_call 104; (with_reducible refine (peek_ok R s p c HC.out _ ?rd1x3).mono ?_); (case rd1x3 => exact HR1.out); rintro e w1 ⟨rfl, hb⟩; have HR2 := am (HR1.out.drawn hb); have HN2 := am ((On.refl R (W.alloc zJ)).drawn hb); have d2 := HR2.out.c1; clear hb) | (go_at_call 105; (with_reducible refine (Calls.val_of (word_calls R s ⟨#[110, 117, 108, 108]⟩ p (by have hz : ByteArray.size ⟨#[110, 117, 108, 108]⟩ = 4 := rfl; rw [hz]; omega) (by omega) _ ?rdy4) HS.out).mono ?_); (case rdy4 => exact HR2.out); rintro e w3 ⟨v, rfl, hv, hr, ho⟩; have HR3 := am hr; have HN3 := am (HN2.out.trans ho); have hv : v = .tuple #[] := hv; subst hv; have HB3 := am (blk_on HB.out hRB (HN2.out.trans ho)); have b0 := (blk_cell HB3.out 0); have b1 := (blk_cell HB3.out 1); have b2 := (blk_cell HB3.out 2); have b3 := (blk_cell HB3.out 3); have g0 := blk_free HB3.out 0; have g1 := blk_free HB3.out 1; have g2 := blk_free HB3.out 2; have g3 := blk_free HB3.out 3; dsimp at b0 b1 b2 b3; clear hr ho))
    refine bodyPost_ret (results_cell_row rfl _ _ W.heap.size 25 #[.int .i64 0, .string ⟨#[]⟩, .slice none 0 0, .slice none 0 0] (0, 0) _ rfl (blk4 HB3.out _ _ _ _) Tryz.underlying25 rfl (by kernel_rfl)) rfl ?_
    exact value_end (j := ⟨0, bsJ [], [], []⟩) HX.out HR3.out HN3.out HRW.out (Kd.R_nil _ _ _ _ _) (Kd.R_nil _ _ _ _ _)
  rw [if_neg h110] at hF
  have e110 : ((c.toNat : Int) == 110) = false := (beq_u8 c 110 (by omega)).trans (decide_eq_false h110)
  clear h110
  by_cases h116 : c = 116
  ·rw [if_pos h116] at hF
   have e116 : ((c.toNat : Int) == 116) = true := (beq_u8 c 116 (by omega)).trans (decide_eq_true h116)
   clear h116
   cases hs : wordF s.data.toList [116, 114, 117, 101] p with
   | err e q =>
    have HX := am (show o = .err e q by rw [hs] at hF; injection hF with hF; exact hF.symm)
    have HS := am (show wordF s.data.toList (ByteArray.data ⟨#[116, 114, 117, 101]⟩).toList p = .err e q from hs)
    clear hs hF
    go_enter Tryz.func56, Tryz.ntmps56
    go_wp2_with (first | (go_at_call 104; (with_reducible refine (peek_ok R s p c HC.out _ ?rd1x5).mono ?_); (case rd1x5 => exact HR1.out); rintro e w1 ⟨rfl, hb⟩; have HR2 := am (HR1.out.drawn hb); have HN2 := am ((On.refl R (W.alloc zJ)).drawn hb); have d2 := HR2.out.c1; clear hb) | (go_at_call 105; (with_reducible refine (Calls.err_of (word_calls R s ⟨#[116, 114, 117, 101]⟩ p (by have hz : ByteArray.size ⟨#[116, 114, 117, 101]⟩ = 4 := rfl; rw [hz]; omega) (by omega) _ ?rdy6) HS.out).mono ?_); (case rdy6 => exact HR2.out); rintro e w3 ⟨rfl, ho⟩; have HN3 := am (HN2.out.trans ho); clear ho))
    exact ⟨rfl, Ends.no HX.out (HOW.out.trans HN3.out)⟩
   | val u q =>
    have HX := am (show o = .val (⟨2, bsJ [], [], []⟩ : J) q by rw [hs] at hF; injection hF with hF; exact hF.symm)
    have HS := am (show wordF s.data.toList (ByteArray.data ⟨#[116, 114, 117, 101]⟩).toList p = .val u q from hs)
    clear hs hF
    go_enter Tryz.func56, Tryz.ntmps56
    go_wp2_with (first | (go_at_call 104; (with_reducible refine (peek_ok R s p c HC.out _ ?rd1x7).mono ?_); (case rd1x7 => exact HR1.out); rintro e w1 ⟨rfl, hb⟩; have HR2 := am (HR1.out.drawn hb); have HN2 := am ((On.refl R (W.alloc zJ)).drawn hb); have d2 := HR2.out.c1; clear hb) | (go_at_call 105; (with_reducible refine (Calls.val_of (word_calls R s ⟨#[116, 114, 117, 101]⟩ p (by have hz : ByteArray.size ⟨#[116, 114, 117, 101]⟩ = 4 := rfl; rw [hz]; omega) (by omega) _ ?rdy8) HS.out).mono ?_); (case rdy8 => exact HR2.out); rintro e w3 ⟨v, rfl, hv, hr, ho⟩; have HR3 := am hr; have HN3 := am (HN2.out.trans ho); have hv : v = .tuple #[] := hv; subst hv; have HB3 := am (blk_on HB.out hRB (HN2.out.trans ho)); have b0 := (blk_cell HB3.out 0); have b1 := (blk_cell HB3.out 1); have b2 := (blk_cell HB3.out 2); have b3 := (blk_cell HB3.out 3); have g0 := blk_free HB3.out 0; have g1 := blk_free HB3.out 1; have g2 := blk_free HB3.out 2; have g3 := blk_free HB3.out 3; dsimp at b0 b1 b2 b3; clear hr ho))
    refine bodyPost_ret (results_cell_row rfl _ _ W.heap.size 25 #[.int .i64 2, .string ⟨#[]⟩, .slice none 0 0, .slice none 0 0] (0, 0) _ rfl (blk4 HB3.out _ _ _ _) Tryz.underlying25 rfl (by kernel_rfl)) rfl ?_
    exact value_end (j := ⟨2, bsJ [], [], []⟩) HX.out HR3.out HN3.out HRW.out (Kd.R_nil _ _ _ _ _) (Kd.R_nil _ _ _ _ _)
  rw [if_neg h116] at hF
  have e116 : ((c.toNat : Int) == 116) = false := (beq_u8 c 116 (by omega)).trans (decide_eq_false h116)
  clear h116
  by_cases h102 : c = 102
  ·rw [if_pos h102] at hF
   have e102 : ((c.toNat : Int) == 102) = true := (beq_u8 c 102 (by omega)).trans (decide_eq_true h102)
   clear h102
   cases hs : wordF s.data.toList [102, 97, 108, 115, 101] p with
   | err e q =>
    have HX := am (show o = .err e q by rw [hs] at hF; injection hF with hF; exact hF.symm)
    have HS := am (show wordF s.data.toList (ByteArray.data ⟨#[102, 97, 108, 115, 101]⟩).toList p = .err e q from hs)
    clear hs hF
    go_enter Tryz.func56, Tryz.ntmps56
    go_wp2_with (first | (go_at_call 104; (with_reducible refine (peek_ok R s p c HC.out _ ?rd1x9).mono ?_); (case rd1x9 => exact HR1.out); rintro e w1 ⟨rfl, hb⟩; have HR2 := am (HR1.out.drawn hb); have HN2 := am ((On.refl R (W.alloc zJ)).drawn hb); have d2 := HR2.out.c1; clear hb) | (go_at_call 105; (with_reducible refine (Calls.err_of (word_calls R s ⟨#[102, 97, 108, 115, 101]⟩ p (by have hz : ByteArray.size ⟨#[102, 97, 108, 115, 101]⟩ = 5 := rfl; rw [hz]; omega) (by omega) _ ?rdy10) HS.out).mono ?_); (case rdy10 => exact HR2.out); rintro e w3 ⟨rfl, ho⟩; have HN3 := am (HN2.out.trans ho); clear ho))
    exact ⟨rfl, Ends.no HX.out (HOW.out.trans HN3.out)⟩
   | val u q =>
    have HX := am (show o = .val (⟨1, bsJ [], [], []⟩ : J) q by rw [hs] at hF; injection hF with hF; exact hF.symm)
    have HS := am (show wordF s.data.toList (ByteArray.data ⟨#[102, 97, 108, 115, 101]⟩).toList p = .val u q from hs)
    clear hs hF
    go_enter Tryz.func56, Tryz.ntmps56
    go_wp2_with (first | (go_at_call 104; (with_reducible refine (peek_ok R s p c HC.out _ ?rd1x11).mono ?_); (case rd1x11 => exact HR1.out); rintro e w1 ⟨rfl, hb⟩; have HR2 := am (HR1.out.drawn hb); have HN2 := am ((On.refl R (W.alloc zJ)).drawn hb); have d2 := HR2.out.c1; clear hb) | (go_at_call 105; (with_reducible refine (Calls.val_of (word_calls R s ⟨#[102, 97, 108, 115, 101]⟩ p (by have hz : ByteArray.size ⟨#[102, 97, 108, 115, 101]⟩ = 5 := rfl; rw [hz]; omega) (by omega) _ ?rdy12) HS.out).mono ?_); (case rdy12 => exact HR2.out); rintro e w3 ⟨v, rfl, hv, hr, ho⟩; have HR3 := am hr; have HN3 := am (HN2.out.trans ho); have hv : v = .tuple #[] := hv; subst hv; have HB3 := am (blk_on HB.out hRB (HN2.out.trans ho)); have b0 := (blk_cell HB3.out 0); have b1 := (blk_cell HB3.out 1); have b2 := (blk_cell HB3.out 2); have b3 := (blk_cell HB3.out 3); have g0 := blk_free HB3.out 0; have g1 := blk_free HB3.out 1; have g2 := blk_free HB3.out 2; have g3 := blk_free HB3.out 3; dsimp at b0 b1 b2 b3; clear hr ho))
    refine bodyPost_ret (results_cell_row rfl _ _ W.heap.size 25 #[.int .i64 1, .string ⟨#[]⟩, .slice none 0 0, .slice none 0 0] (0, 0) _ rfl (blk4 HB3.out _ _ _ _) Tryz.underlying25 rfl (by kernel_rfl)) rfl ?_
    exact value_end (j := ⟨1, bsJ [], [], []⟩) HX.out HR3.out HN3.out HRW.out (Kd.R_nil _ _ _ _ _) (Kd.R_nil _ _ _ _ _)
  rw [if_neg h102] at hF
  have e102 : ((c.toNat : Int) == 102) = false := (beq_u8 c 102 (by omega)).trans (decide_eq_false h102)
  clear h102
  by_cases hnum : c = 45 ∨ isDg c = true
  ·rw [if_pos hnum] at hF
   by_cases h45 : c = 45
   ·have e45 : ((c.toNat : Int) == 45) = true := (beq_u8 c 45 (by omega)).trans (decide_eq_true h45)
    clear h45 hnum
    cases hs : numberF s.data.toList p with
    | err e q =>
     have HX := am (show o = .err e q by rw [hs] at hF; injection hF with hF; exact hF.symm)
     have HS := am hs
     clear hs hF
     go_enter Tryz.func56, Tryz.ntmps56
     go_wp2_with (first | (go_at_call 104; (with_reducible refine (peek_ok R s p c HC.out _ ?rd1x13).mono ?_); (case rd1x13 => exact HR1.out); rintro e w1 ⟨rfl, hb⟩; have HR2 := am (HR1.out.drawn hb); have HN2 := am ((On.refl R (W.alloc zJ)).drawn hb); have d2 := HR2.out.c1; clear hb) | (go_at_call 106; (with_reducible refine (Calls.err_of (number_calls R s p (by omega) (by omega) _ ?rdy14) HS.out).mono ?_); (case rdy14 => exact HR2.out); rintro e w3 ⟨rfl, ho⟩; have HN3 := am (HN2.out.trans ho); clear ho))
     exact ⟨rfl, Ends.no HX.out (HOW.out.trans HN3.out)⟩
    | val u q =>
     have HX := am (show o = .val (⟨3, bsJ u, [], []⟩ : J) q by rw [hs] at hF; injection hF with hF; exact hF.symm)
     have HS := am hs
     clear hs hF
     go_enter Tryz.func56, Tryz.ntmps56
     go_wp2_with (first | (go_at_call 104; (with_reducible refine (peek_ok R s p c HC.out _ ?rd1x15).mono ?_); (case rd1x15 => exact HR1.out); rintro e w1 ⟨rfl, hb⟩; have HR2 := am (HR1.out.drawn hb); have HN2 := am ((On.refl R (W.alloc zJ)).drawn hb); have d2 := HR2.out.c1; clear hb) | (go_at_call 106; (with_reducible refine (Calls.val_of (number_calls R s p (by omega) (by omega) _ ?rdy16) HS.out).mono ?_); (case rdy16 => exact HR2.out); rintro e w3 ⟨v, rfl, hv, hr, ho⟩; have HR3 := am hr; have HN3 := am (HN2.out.trans ho); have hv : v = .string (bs u) := hv; subst hv; have HB3 := am (blk_on HB.out hRB (HN2.out.trans ho)); have b0 := (blk_cell HB3.out 0); have b1 := (blk_cell HB3.out 1); have b2 := (blk_cell HB3.out 2); have b3 := (blk_cell HB3.out 3); have g0 := blk_free HB3.out 0; have g1 := blk_free HB3.out 1; have g2 := blk_free HB3.out 2; have g3 := blk_free HB3.out 3; dsimp at b0 b1 b2 b3; clear hr ho))
     refine bodyPost_ret (results_cell_row rfl _ _ W.heap.size 25 #[.int .i64 3, .string (bs u), .slice none 0 0, .slice none 0 0] (0, 0) _ rfl (blk4 HB3.out _ _ _ _) Tryz.underlying25 rfl (by kernel_rfl)) rfl ?_
     exact value_end (j := ⟨3, bsJ u, [], []⟩) HX.out HR3.out HN3.out HRW.out (Kd.R_nil _ _ _ _ _) (Kd.R_nil _ _ _ _ _)
   ·have e45 : ((c.toNat : Int) == 45) = false := (beq_u8 c 45 (by omega)).trans (decide_eq_false h45)
    have hdg : isDg c = true := hnum.resolve_left h45
    unfold isDg at hdg
    have hdg := of_decide_eq_true hdg
    have a1 : (48 : Int) ≤ (c.toNat : Int) := by omega
    have a2 : (c.toNat : Int) ≤ 57 := by omega
    clear h45 hnum hdg
    cases hs : numberF s.data.toList p with
    | err e q =>
     have HX := am (show o = .err e q by rw [hs] at hF; injection hF with hF; exact hF.symm)
     have HS := am hs
     clear hs hF
     go_enter Tryz.func56, Tryz.ntmps56
     go_wp2_with (first | (go_at_call 104; (with_reducible refine (peek_ok R s p c HC.out _ ?rd1x17).mono ?_); (case rd1x17 => exact HR1.out); rintro e w1 ⟨rfl, hb⟩; have HR2 := am (HR1.out.drawn hb); have HN2 := am ((On.refl R (W.alloc zJ)).drawn hb); have d2 := HR2.out.c1; clear hb) | (go_at_call 106; (with_reducible refine (Calls.err_of (number_calls R s p (by omega) (by omega) _ ?rdy18) HS.out).mono ?_); (case rdy18 => exact HR2.out); rintro e w3 ⟨rfl, ho⟩; have HN3 := am (HN2.out.trans ho); clear ho))
     exact ⟨rfl, Ends.no HX.out (HOW.out.trans HN3.out)⟩
    | val u q =>
     have HX := am (show o = .val (⟨3, bsJ u, [], []⟩ : J) q by rw [hs] at hF; injection hF with hF; exact hF.symm)
     have HS := am hs
     clear hs hF
     go_enter Tryz.func56, Tryz.ntmps56
     go_wp2_with (first | (go_at_call 104; (with_reducible refine (peek_ok R s p c HC.out _ ?rd1x19).mono ?_); (case rd1x19 => exact HR1.out); rintro e w1 ⟨rfl, hb⟩; have HR2 := am (HR1.out.drawn hb); have HN2 := am ((On.refl R (W.alloc zJ)).drawn hb); have d2 := HR2.out.c1; clear hb) | (go_at_call 106; (with_reducible refine (Calls.val_of (number_calls R s p (by omega) (by omega) _ ?rdy20) HS.out).mono ?_); (case rdy20 => exact HR2.out); rintro e w3 ⟨v, rfl, hv, hr, ho⟩; have HR3 := am hr; have HN3 := am (HN2.out.trans ho); have hv : v = .string (bs u) := hv; subst hv; have HB3 := am (blk_on HB.out hRB (HN2.out.trans ho)); have b0 := (blk_cell HB3.out 0); have b1 := (blk_cell HB3.out 1); have b2 := (blk_cell HB3.out 2); have b3 := (blk_cell HB3.out 3); have g0 := blk_free HB3.out 0; have g1 := blk_free HB3.out 1; have g2 := blk_free HB3.out 2; have g3 := blk_free HB3.out 3; dsimp at b0 b1 b2 b3; clear hr ho))
     refine bodyPost_ret (results_cell_row rfl _ _ W.heap.size 25 #[.int .i64 3, .string (bs u), .slice none 0 0, .slice none 0 0] (0, 0) _ rfl (blk4 HB3.out _ _ _ _) Tryz.underlying25 rfl (by kernel_rfl)) rfl ?_
     exact value_end (j := ⟨3, bsJ u, [], []⟩) HX.out HR3.out HN3.out HRW.out (Kd.R_nil _ _ _ _ _) (Kd.R_nil _ _ _ _ _)
  rw [if_neg hnum] at hF
  have e45 : ((c.toNat : Int) == 45) = false := (beq_u8 c 45 (by omega)).trans (decide_eq_false (fun h => hnum (.inl h)))
  have hdg : ¬ (48 ≤ c.toNat ∧ c.toNat ≤ 57) := fun h => hnum (.inr (by unfold isDg; exact decide_eq_true h))
  clear hnum
  by_cases hlo : 48 ≤ c.toNat
  ·have a1 : (48 : Int) ≤ (c.toNat : Int) := by omega
   have a3 : ¬ (c.toNat : Int) ≤ 57 := by omega
   have a4 : decide ((c.toNat : Int) ≤ 57) = false := decide_eq_false a3
   clear hlo hdg
   by_cases h34 : c = 34
   ·rw [if_pos h34] at hF
    have e34 : ((c.toNat : Int) == 34) = true := (beq_u8 c 34 (by omega)).trans (decide_eq_true h34)
    clear h34
    obtain ⟨o1, hs, ho⟩ := omap_some _ _ _ hF
    have HE := am hs
    have HS := am (rfl : o1 = o1)
    clear hs hF
    cases o1 with
    | err e q =>
     have HX := am (show o = .err e q from ho)
     clear ho
     go_enter Tryz.func56, Tryz.ntmps56
     go_wp2_with (first | (go_at_call 104; (with_reducible refine (peek_ok R s p c HC.out _ ?rd1x21).mono ?_); (case rd1x21 => exact HR1.out); rintro e w1 ⟨rfl, hb⟩; have HR2 := am (HR1.out.drawn hb); have HN2 := am ((On.refl R (W.alloc zJ)).drawn hb); have d2 := HR2.out.c1; clear hb) | (go_at_call 107; (with_reducible refine (Calls.err_of (text_calls R s p k _ hl hlt _ ?rdy22 ?tby22 HE.out) rfl).mono ?_); (case rdy22 => exact HR2.out); (case tby22 => exact HT.out _ HN2.out); rintro e w3 ⟨rfl, ho⟩; have HN3 := am (HN2.out.trans ho); clear ho))
     exact ⟨rfl, Ends.no HX.out (HOW.out.trans HN3.out)⟩
    | val u q =>
     have HX := am (show o = .val (⟨4, bsJ u, [], []⟩ : J) q from ho)
     clear ho
     go_enter Tryz.func56, Tryz.ntmps56
     go_wp2_with (first | (go_at_call 104; (with_reducible refine (peek_ok R s p c HC.out _ ?rd1x23).mono ?_); (case rd1x23 => exact HR1.out); rintro e w1 ⟨rfl, hb⟩; have HR2 := am (HR1.out.drawn hb); have HN2 := am ((On.refl R (W.alloc zJ)).drawn hb); have d2 := HR2.out.c1; clear hb) | (go_at_call 107; (with_reducible refine (Calls.val_of (text_calls R s p k _ hl hlt _ ?rdy24 ?tby24 HE.out) rfl).mono ?_); (case rdy24 => exact HR2.out); (case tby24 => exact HT.out _ HN2.out); rintro e w3 ⟨v, rfl, hv, hr, ho⟩; have HR3 := am hr; have HN3 := am (HN2.out.trans ho); have hv : v = .string (bs u) := hv; subst hv; have HB3 := am (blk_on HB.out hRB (HN2.out.trans ho)); have b0 := (blk_cell HB3.out 0); have b1 := (blk_cell HB3.out 1); have b2 := (blk_cell HB3.out 2); have b3 := (blk_cell HB3.out 3); have g0 := blk_free HB3.out 0; have g1 := blk_free HB3.out 1; have g2 := blk_free HB3.out 2; have g3 := blk_free HB3.out 3; dsimp at b0 b1 b2 b3; clear hr ho))
     refine bodyPost_ret (results_cell_row rfl _ _ W.heap.size 25 #[.int .i64 4, .string (bs u), .slice none 0 0, .slice none 0 0] (0, 0) _ rfl (blk4 HB3.out _ _ _ _) Tryz.underlying25 rfl (by kernel_rfl)) rfl ?_
     exact value_end (j := ⟨4, bsJ u, [], []⟩) HX.out HR3.out HN3.out HRW.out (Kd.R_nil _ _ _ _ _) (Kd.R_nil _ _ _ _ _)
   rw [if_neg h34] at hF
   have e34 : ((c.toNat : Int) == 34) = false := (beq_u8 c 34 (by omega)).trans (decide_eq_false h34)
   clear h34
   by_cases hbr : c = 91 ∨ c = 123
   ·rw [if_pos hbr] at hF
    cases r with
    | zero =>
     have HX := am (show o = .err 46 p by injection hF with hF; exact hF.symm)
     clear hF
     have hd : ((32 : Int) ≤ 32 - ((0 : Nat) : Int)) := by omega
     by_cases h91 : c = 91
     ·have e91 : ((c.toNat : Int) == 91) = true := (beq_u8 c 91 (by omega)).trans (decide_eq_true h91)
      clear h91 hbr
      go_enter Tryz.func56, Tryz.ntmps56
      go_wp2_with (first | (go_at_call 104; (with_reducible refine (peek_ok R s p c HC.out _ ?rd1x25).mono ?_); (case rd1x25 => exact HR1.out); rintro e w1 ⟨rfl, hb⟩; have HR2 := am (HR1.out.drawn hb); have HN2 := am ((On.refl R (W.alloc zJ)).drawn hb); have d2 := HR2.out.c1; clear hb) | (go_at_call 57; (with_reducible refine (fail_calls _ _ _ _).mono ?_); rintro e w9 ⟨rfl, hb⟩; have HB9 := am hb; clear hb))
      exact ⟨rfl, Ends.no HX.out (HOW.out.trans (HN2.out.drawn HB9.out))⟩
     ·have e91 : ((c.toNat : Int) == 91) = false := (beq_u8 c 91 (by omega)).trans (decide_eq_false h91)
      have e123 : ((c.toNat : Int) == 123) = true := (beq_u8 c 123 (by omega)).trans (decide_eq_true (hbr.resolve_left h91))
      clear h91 hbr
      go_enter Tryz.func56, Tryz.ntmps56
      go_wp2_with (first | (go_at_call 104; (with_reducible refine (peek_ok R s p c HC.out _ ?rd1x26).mono ?_); (case rd1x26 => exact HR1.out); rintro e w1 ⟨rfl, hb⟩; have HR2 := am (HR1.out.drawn hb); have HN2 := am ((On.refl R (W.alloc zJ)).drawn hb); have d2 := HR2.out.c1; clear hb) | (go_at_call 57; (with_reducible refine (fail_calls _ _ _ _).mono ?_); rintro e w9 ⟨rfl, hb⟩; have HB9 := am hb; clear hb))
      exact ⟨rfl, Ends.no HX.out (HOW.out.trans (HN2.out.drawn HB9.out))⟩
    | succ r' =>
     simp only at hF
     have hd : ¬ ((32 : Int) ≤ 32 - ((r' + 1 : Nat) : Int)) := by omega
     have hd2 : decide ((32 : Int) ≤ 32 - ((r' + 1 : Nat) : Int)) = false := decide_eq_false hd
     have HI := am (show ValOK R s k r' (wrap64 (32 - ((r' + 1 : Nat) : Int) + 1)) by rw [Go.Proofs.YtpdelcbkcebkpaaGreatDoor.X.wr _ (by omega), show (32 - ((r' + 1 : Nat) : Int) + 1) = 32 - (r' : Int) by omega]; exact IH r' rfl)
     have HSZ := am esz
     generalize hdd : 32 - ((r' + 1 : Nat) : Int) = d at *
     clear hdd
     by_cases h91 : c = 91
     ·rw [if_pos h91] at hF
      have e91 : ((c.toNat : Int) == 91) = true := (beq_u8 c 91 (by omega)).trans (decide_eq_true h91)
      clear h91 hbr
      obtain ⟨o1, hs, ho⟩ := omap_some _ _ _ hF
      have HE := am hs
      clear hs hF
      cases o1 with
      | err e q =>
       have HX := am (show o = .err e q from ho)
       clear ho
       go_enter Tryz.func56, Tryz.ntmps56
       go_wp2_with (first | (go_at_call 104; (with_reducible refine (peek_ok R s p c HC.out _ ?rd1x27).mono ?_); (case rd1x27 => exact HR1.out); rintro e w1 ⟨rfl, hb⟩; have HR2 := am (HR1.out.drawn hb); have HN2 := am ((On.refl R (W.alloc zJ)).drawn hb); have d2 := HR2.out.c1; clear hb) | (go_at_call 108; (with_reducible refine (Calls.err_of (list_calls R s k r' d p _ hl ?rdy28 ?tby28 hlt (HI.out) _ HE.out) rfl).mono ?_); (case rdy28 => exact HR2.out); (case tby28 => exact HT.out _ HN2.out); rintro e w3 ⟨rfl, ho⟩; have HN3 := am (HN2.out.trans ho); clear ho))
       exact ⟨rfl, Ends.no HX.out (HOW.out.trans HN3.out)⟩
      | val u q =>
       have HX := am (show o = .val (⟨5, bsJ [], [], u⟩ : J) q from ho)
       clear ho
       go_enter Tryz.func56, Tryz.ntmps56
       go_wp2_with (first | (go_at_call 104; (with_reducible refine (peek_ok R s p c HC.out _ ?rd1x29).mono ?_); (case rd1x29 => exact HR1.out); rintro e w1 ⟨rfl, hb⟩; have HR2 := am (HR1.out.drawn hb); have HN2 := am ((On.refl R (W.alloc zJ)).drawn hb); have d2 := HR2.out.c1; clear hb) | (go_at_call 108; (with_reducible refine (Calls.val_of (list_calls R s k r' d p _ hl ?rdy30 ?tby30 hlt (HI.out) _ HE.out) rfl).mono ?_); (case rdy30 => exact HR2.out); (case tby30 => exact HT.out _ HN2.out); rintro e w3 ⟨v, rfl, hv, hr, ho⟩; have HR3 := am hr; have HN3 := am (HN2.out.trans ho); obtain ⟨v2, v3, rfl, j2, j3⟩ := hv; have j2 := below_base HSZ.out HN2.out j2; have j3 := below_base HSZ.out HN2.out j3; have HJ2 := am j2; have HJ3 := am j3; obtain ⟨A2, c2, e2⟩ := Kd.R_slice j2; obtain ⟨A3, c3, e3⟩ := Kd.R_slice j3; subst e2 e3; clear j2 j3; have HB3 := am (blk_on HB.out hRB (HN2.out.trans ho)); have b0 := (blk_cell HB3.out 0); have b1 := (blk_cell HB3.out 1); have b2 := (blk_cell HB3.out 2); have b3 := (blk_cell HB3.out 3); have g0 := blk_free HB3.out 0; have g1 := blk_free HB3.out 1; have g2 := blk_free HB3.out 2; have g3 := blk_free HB3.out 3; dsimp at b0 b1 b2 b3; clear hr ho))
       refine bodyPost_ret (results_cell_row rfl _ _ W.heap.size 25 #[.int .i64 5, .string ⟨#[]⟩, .slice A2 ([] : List ByteArray).length c2, .slice A3 u.length c3] (0, 0) _ rfl (blk4 HB3.out _ _ _ _) Tryz.underlying25 rfl (by kernel_rfl)) rfl ?_
       exact value_end (j := ⟨5, bsJ [], [], u⟩) HX.out HR3.out HN3.out HRW.out HJ2.out HJ3.out
     ·rw [if_neg h91] at hF
      have e91 : ((c.toNat : Int) == 91) = false := (beq_u8 c 91 (by omega)).trans (decide_eq_false h91)
      have e123 : ((c.toNat : Int) == 123) = true := (beq_u8 c 123 (by omega)).trans (decide_eq_true (hbr.resolve_left h91))
      clear h91 hbr
      obtain ⟨o1, hs, ho⟩ := omap_some _ _ _ hF
      have HE := am hs
      clear hs hF
      cases o1 with
      | err e q =>
       have HX := am (show o = .err e q from ho)
       clear ho
       go_enter Tryz.func56, Tryz.ntmps56
       go_wp2_with (first | (go_at_call 104; (with_reducible refine (peek_ok R s p c HC.out _ ?rd1x31).mono ?_); (case rd1x31 => exact HR1.out); rintro e w1 ⟨rfl, hb⟩; have HR2 := am (HR1.out.drawn hb); have HN2 := am ((On.refl R (W.alloc zJ)).drawn hb); have d2 := HR2.out.c1; clear hb) | (go_at_call 109; (with_reducible refine (Calls.err_of (object_calls R s k r' d p _ hl ?rdy32 ?tby32 hlt (HI.out) _ HE.out) rfl).mono ?_); (case rdy32 => exact HR2.out); (case tby32 => exact HT.out _ HN2.out); rintro e w3 ⟨rfl, ho⟩; have HN3 := am (HN2.out.trans ho); clear ho))
       exact ⟨rfl, Ends.no HX.out (HOW.out.trans HN3.out)⟩
      | val u q =>
       have HX := am (show o = .val (⟨6, bsJ [], u.1, u.2⟩ : J) q from ho)
       clear ho
       go_enter Tryz.func56, Tryz.ntmps56
       go_wp2_with (first | (go_at_call 104; (with_reducible refine (peek_ok R s p c HC.out _ ?rd1x33).mono ?_); (case rd1x33 => exact HR1.out); rintro e w1 ⟨rfl, hb⟩; have HR2 := am (HR1.out.drawn hb); have HN2 := am ((On.refl R (W.alloc zJ)).drawn hb); have d2 := HR2.out.c1; clear hb) | (go_at_call 109; (with_reducible refine (Calls.val_of (object_calls R s k r' d p _ hl ?rdy34 ?tby34 hlt (HI.out) _ HE.out) rfl).mono ?_); (case rdy34 => exact HR2.out); (case tby34 => exact HT.out _ HN2.out); rintro e w3 ⟨v, rfl, hv, hr, ho⟩; have HR3 := am hr; have HN3 := am (HN2.out.trans ho); obtain ⟨v2, v3, rfl, j2, j3⟩ := hv; have j2 := below_base HSZ.out HN2.out j2; have j3 := below_base HSZ.out HN2.out j3; have HJ2 := am j2; have HJ3 := am j3; obtain ⟨A2, c2, e2⟩ := Kd.R_slice j2; obtain ⟨A3, c3, e3⟩ := Kd.R_slice j3; subst e2 e3; clear j2 j3; have HB3 := am (blk_on HB.out hRB (HN2.out.trans ho)); have b0 := (blk_cell HB3.out 0); have b1 := (blk_cell HB3.out 1); have b2 := (blk_cell HB3.out 2); have b3 := (blk_cell HB3.out 3); have g0 := blk_free HB3.out 0; have g1 := blk_free HB3.out 1; have g2 := blk_free HB3.out 2; have g3 := blk_free HB3.out 3; dsimp at b0 b1 b2 b3; clear hr ho))
       refine bodyPost_ret (results_cell_row rfl _ _ W.heap.size 25 #[.int .i64 6, .string ⟨#[]⟩, .slice A2 u.1.length c2, .slice A3 u.2.length c3] (0, 0) _ rfl (blk4 HB3.out _ _ _ _) Tryz.underlying25 rfl (by kernel_rfl)) rfl ?_
       exact value_end (j := ⟨6, bsJ [], u.1, u.2⟩) HX.out HR3.out HN3.out HRW.out HJ2.out HJ3.out
   ·rw [if_neg hbr] at hF
    have HX := am (show o = .err 40 p by injection hF with hF; exact hF.symm)
    have e91 : ((c.toNat : Int) == 91) = false := (beq_u8 c 91 (by omega)).trans (decide_eq_false (fun h => hbr (.inl h)))
    have e123 : ((c.toNat : Int) == 123) = false := (beq_u8 c 123 (by omega)).trans (decide_eq_false (fun h => hbr (.inr h)))
    clear hF hbr
    go_enter Tryz.func56, Tryz.ntmps56
    go_wp2_with (first | (go_at_call 104; (with_reducible refine (peek_ok R s p c HC.out _ ?rd1x35).mono ?_); (case rd1x35 => exact HR1.out); rintro e w1 ⟨rfl, hb⟩; have HR2 := am (HR1.out.drawn hb); have HN2 := am ((On.refl R (W.alloc zJ)).drawn hb); have d2 := HR2.out.c1; clear hb) | (go_at_call 57; (with_reducible refine (fail_calls _ _ _ _).mono ?_); rintro e w9 ⟨rfl, hb⟩; have HB9 := am hb; clear hb))
    exact ⟨rfl, Ends.no HX.out (HOW.out.trans (HN2.out.drawn HB9.out))⟩
  ·have a1 : ¬ (48 : Int) ≤ (c.toNat : Int) := by omega
   have a3 : decide ((48 : Int) ≤ (c.toNat : Int)) = false := decide_eq_false a1
   clear hlo hdg
   by_cases h34 : c = 34
   ·rw [if_pos h34] at hF
    have e34 : ((c.toNat : Int) == 34) = true := (beq_u8 c 34 (by omega)).trans (decide_eq_true h34)
    clear h34
    obtain ⟨o1, hs, ho⟩ := omap_some _ _ _ hF
    have HE := am hs
    have HS := am (rfl : o1 = o1)
    clear hs hF
    cases o1 with
    | err e q =>
     have HX := am (show o = .err e q from ho)
     clear ho
     go_enter Tryz.func56, Tryz.ntmps56
     go_wp2_with (first | (go_at_call 104; (with_reducible refine (peek_ok R s p c HC.out _ ?rd1x36).mono ?_); (case rd1x36 => exact HR1.out); rintro e w1 ⟨rfl, hb⟩; have HR2 := am (HR1.out.drawn hb); have HN2 := am ((On.refl R (W.alloc zJ)).drawn hb); have d2 := HR2.out.c1; clear hb) | (go_at_call 107; (with_reducible refine (Calls.err_of (text_calls R s p k _ hl hlt _ ?rdy37 ?tby37 HE.out) rfl).mono ?_); (case rdy37 => exact HR2.out); (case tby37 => exact HT.out _ HN2.out); rintro e w3 ⟨rfl, ho⟩; have HN3 := am (HN2.out.trans ho); clear ho))
     exact ⟨rfl, Ends.no HX.out (HOW.out.trans HN3.out)⟩
    | val u q =>
     have HX := am (show o = .val (⟨4, bsJ u, [], []⟩ : J) q from ho)
     clear ho
     go_enter Tryz.func56, Tryz.ntmps56
     go_wp2_with (first | (go_at_call 104; (with_reducible refine (peek_ok R s p c HC.out _ ?rd1x38).mono ?_); (case rd1x38 => exact HR1.out); rintro e w1 ⟨rfl, hb⟩; have HR2 := am (HR1.out.drawn hb); have HN2 := am ((On.refl R (W.alloc zJ)).drawn hb); have d2 := HR2.out.c1; clear hb) | (go_at_call 107; (with_reducible refine (Calls.val_of (text_calls R s p k _ hl hlt _ ?rdy39 ?tby39 HE.out) rfl).mono ?_); (case rdy39 => exact HR2.out); (case tby39 => exact HT.out _ HN2.out); rintro e w3 ⟨v, rfl, hv, hr, ho⟩; have HR3 := am hr; have HN3 := am (HN2.out.trans ho); have hv : v = .string (bs u) := hv; subst hv; have HB3 := am (blk_on HB.out hRB (HN2.out.trans ho)); have b0 := (blk_cell HB3.out 0); have b1 := (blk_cell HB3.out 1); have b2 := (blk_cell HB3.out 2); have b3 := (blk_cell HB3.out 3); have g0 := blk_free HB3.out 0; have g1 := blk_free HB3.out 1; have g2 := blk_free HB3.out 2; have g3 := blk_free HB3.out 3; dsimp at b0 b1 b2 b3; clear hr ho))
     refine bodyPost_ret (results_cell_row rfl _ _ W.heap.size 25 #[.int .i64 4, .string (bs u), .slice none 0 0, .slice none 0 0] (0, 0) _ rfl (blk4 HB3.out _ _ _ _) Tryz.underlying25 rfl (by kernel_rfl)) rfl ?_
     exact value_end (j := ⟨4, bsJ u, [], []⟩) HX.out HR3.out HN3.out HRW.out (Kd.R_nil _ _ _ _ _) (Kd.R_nil _ _ _ _ _)
   rw [if_neg h34] at hF
   have e34 : ((c.toNat : Int) == 34) = false := (beq_u8 c 34 (by omega)).trans (decide_eq_false h34)
   clear h34
   by_cases hbr : c = 91 ∨ c = 123
   ·rw [if_pos hbr] at hF
    cases r with
    | zero =>
     have HX := am (show o = .err 46 p by injection hF with hF; exact hF.symm)
     clear hF
     have hd : ((32 : Int) ≤ 32 - ((0 : Nat) : Int)) := by omega
     by_cases h91 : c = 91
     ·have e91 : ((c.toNat : Int) == 91) = true := (beq_u8 c 91 (by omega)).trans (decide_eq_true h91)
      clear h91 hbr
      go_enter Tryz.func56, Tryz.ntmps56
      go_wp2_with (first | (go_at_call 104; (with_reducible refine (peek_ok R s p c HC.out _ ?rd1x40).mono ?_); (case rd1x40 => exact HR1.out); rintro e w1 ⟨rfl, hb⟩; have HR2 := am (HR1.out.drawn hb); have HN2 := am ((On.refl R (W.alloc zJ)).drawn hb); have d2 := HR2.out.c1; clear hb) | (go_at_call 57; (with_reducible refine (fail_calls _ _ _ _).mono ?_); rintro e w9 ⟨rfl, hb⟩; have HB9 := am hb; clear hb))
      exact ⟨rfl, Ends.no HX.out (HOW.out.trans (HN2.out.drawn HB9.out))⟩
     ·have e91 : ((c.toNat : Int) == 91) = false := (beq_u8 c 91 (by omega)).trans (decide_eq_false h91)
      have e123 : ((c.toNat : Int) == 123) = true := (beq_u8 c 123 (by omega)).trans (decide_eq_true (hbr.resolve_left h91))
      clear h91 hbr
      go_enter Tryz.func56, Tryz.ntmps56
      go_wp2_with (first | (go_at_call 104; (with_reducible refine (peek_ok R s p c HC.out _ ?rd1x41).mono ?_); (case rd1x41 => exact HR1.out); rintro e w1 ⟨rfl, hb⟩; have HR2 := am (HR1.out.drawn hb); have HN2 := am ((On.refl R (W.alloc zJ)).drawn hb); have d2 := HR2.out.c1; clear hb) | (go_at_call 57; (with_reducible refine (fail_calls _ _ _ _).mono ?_); rintro e w9 ⟨rfl, hb⟩; have HB9 := am hb; clear hb))
      exact ⟨rfl, Ends.no HX.out (HOW.out.trans (HN2.out.drawn HB9.out))⟩
    | succ r' =>
     simp only at hF
     have hd : ¬ ((32 : Int) ≤ 32 - ((r' + 1 : Nat) : Int)) := by omega
     have hd2 : decide ((32 : Int) ≤ 32 - ((r' + 1 : Nat) : Int)) = false := decide_eq_false hd
     have HI := am (show ValOK R s k r' (wrap64 (32 - ((r' + 1 : Nat) : Int) + 1)) by rw [Go.Proofs.YtpdelcbkcebkpaaGreatDoor.X.wr _ (by omega), show (32 - ((r' + 1 : Nat) : Int) + 1) = 32 - (r' : Int) by omega]; exact IH r' rfl)
     have HSZ := am esz
     generalize hdd : 32 - ((r' + 1 : Nat) : Int) = d at *
     clear hdd
     by_cases h91 : c = 91
     ·rw [if_pos h91] at hF
      have e91 : ((c.toNat : Int) == 91) = true := (beq_u8 c 91 (by omega)).trans (decide_eq_true h91)
      clear h91 hbr
      obtain ⟨o1, hs, ho⟩ := omap_some _ _ _ hF
      have HE := am hs
      clear hs hF
      cases o1 with
      | err e q =>
       have HX := am (show o = .err e q from ho)
       clear ho
       go_enter Tryz.func56, Tryz.ntmps56
       go_wp2_with (first | (go_at_call 104; (with_reducible refine (peek_ok R s p c HC.out _ ?rd1x42).mono ?_); (case rd1x42 => exact HR1.out); rintro e w1 ⟨rfl, hb⟩; have HR2 := am (HR1.out.drawn hb); have HN2 := am ((On.refl R (W.alloc zJ)).drawn hb); have d2 := HR2.out.c1; clear hb) | (go_at_call 108; (with_reducible refine (Calls.err_of (list_calls R s k r' d p _ hl ?rdy43 ?tby43 hlt (HI.out) _ HE.out) rfl).mono ?_); (case rdy43 => exact HR2.out); (case tby43 => exact HT.out _ HN2.out); rintro e w3 ⟨rfl, ho⟩; have HN3 := am (HN2.out.trans ho); clear ho))
       exact ⟨rfl, Ends.no HX.out (HOW.out.trans HN3.out)⟩
      | val u q =>
       have HX := am (show o = .val (⟨5, bsJ [], [], u⟩ : J) q from ho)
       clear ho
       go_enter Tryz.func56, Tryz.ntmps56
       go_wp2_with (first | (go_at_call 104; (with_reducible refine (peek_ok R s p c HC.out _ ?rd1x44).mono ?_); (case rd1x44 => exact HR1.out); rintro e w1 ⟨rfl, hb⟩; have HR2 := am (HR1.out.drawn hb); have HN2 := am ((On.refl R (W.alloc zJ)).drawn hb); have d2 := HR2.out.c1; clear hb) | (go_at_call 108; (with_reducible refine (Calls.val_of (list_calls R s k r' d p _ hl ?rdy45 ?tby45 hlt (HI.out) _ HE.out) rfl).mono ?_); (case rdy45 => exact HR2.out); (case tby45 => exact HT.out _ HN2.out); rintro e w3 ⟨v, rfl, hv, hr, ho⟩; have HR3 := am hr; have HN3 := am (HN2.out.trans ho); obtain ⟨v2, v3, rfl, j2, j3⟩ := hv; have j2 := below_base HSZ.out HN2.out j2; have j3 := below_base HSZ.out HN2.out j3; have HJ2 := am j2; have HJ3 := am j3; obtain ⟨A2, c2, e2⟩ := Kd.R_slice j2; obtain ⟨A3, c3, e3⟩ := Kd.R_slice j3; subst e2 e3; clear j2 j3; have HB3 := am (blk_on HB.out hRB (HN2.out.trans ho)); have b0 := (blk_cell HB3.out 0); have b1 := (blk_cell HB3.out 1); have b2 := (blk_cell HB3.out 2); have b3 := (blk_cell HB3.out 3); have g0 := blk_free HB3.out 0; have g1 := blk_free HB3.out 1; have g2 := blk_free HB3.out 2; have g3 := blk_free HB3.out 3; dsimp at b0 b1 b2 b3; clear hr ho))
       refine bodyPost_ret (results_cell_row rfl _ _ W.heap.size 25 #[.int .i64 5, .string ⟨#[]⟩, .slice A2 ([] : List ByteArray).length c2, .slice A3 u.length c3] (0, 0) _ rfl (blk4 HB3.out _ _ _ _) Tryz.underlying25 rfl (by kernel_rfl)) rfl ?_
       exact value_end (j := ⟨5, bsJ [], [], u⟩) HX.out HR3.out HN3.out HRW.out HJ2.out HJ3.out
     ·rw [if_neg h91] at hF
      have e91 : ((c.toNat : Int) == 91) = false := (beq_u8 c 91 (by omega)).trans (decide_eq_false h91)
      have e123 : ((c.toNat : Int) == 123) = true := (beq_u8 c 123 (by omega)).trans (decide_eq_true (hbr.resolve_left h91))
      clear h91 hbr
      obtain ⟨o1, hs, ho⟩ := omap_some _ _ _ hF
      have HE := am hs
      clear hs hF
      cases o1 with
      | err e q =>
       have HX := am (show o = .err e q from ho)
       clear ho
       go_enter Tryz.func56, Tryz.ntmps56
       go_wp2_with (first | (go_at_call 104; (with_reducible refine (peek_ok R s p c HC.out _ ?rd1x46).mono ?_); (case rd1x46 => exact HR1.out); rintro e w1 ⟨rfl, hb⟩; have HR2 := am (HR1.out.drawn hb); have HN2 := am ((On.refl R (W.alloc zJ)).drawn hb); have d2 := HR2.out.c1; clear hb) | (go_at_call 109; (with_reducible refine (Calls.err_of (object_calls R s k r' d p _ hl ?rdy47 ?tby47 hlt (HI.out) _ HE.out) rfl).mono ?_); (case rdy47 => exact HR2.out); (case tby47 => exact HT.out _ HN2.out); rintro e w3 ⟨rfl, ho⟩; have HN3 := am (HN2.out.trans ho); clear ho))
       exact ⟨rfl, Ends.no HX.out (HOW.out.trans HN3.out)⟩
      | val u q =>
       have HX := am (show o = .val (⟨6, bsJ [], u.1, u.2⟩ : J) q from ho)
       clear ho
       go_enter Tryz.func56, Tryz.ntmps56
       go_wp2_with (first | (go_at_call 104; (with_reducible refine (peek_ok R s p c HC.out _ ?rd1x48).mono ?_); (case rd1x48 => exact HR1.out); rintro e w1 ⟨rfl, hb⟩; have HR2 := am (HR1.out.drawn hb); have HN2 := am ((On.refl R (W.alloc zJ)).drawn hb); have d2 := HR2.out.c1; clear hb) | (go_at_call 109; (with_reducible refine (Calls.val_of (object_calls R s k r' d p _ hl ?rdy49 ?tby49 hlt (HI.out) _ HE.out) rfl).mono ?_); (case rdy49 => exact HR2.out); (case tby49 => exact HT.out _ HN2.out); rintro e w3 ⟨v, rfl, hv, hr, ho⟩; have HR3 := am hr; have HN3 := am (HN2.out.trans ho); obtain ⟨v2, v3, rfl, j2, j3⟩ := hv; have j2 := below_base HSZ.out HN2.out j2; have j3 := below_base HSZ.out HN2.out j3; have HJ2 := am j2; have HJ3 := am j3; obtain ⟨A2, c2, e2⟩ := Kd.R_slice j2; obtain ⟨A3, c3, e3⟩ := Kd.R_slice j3; subst e2 e3; clear j2 j3; have HB3 := am (blk_on HB.out hRB (HN2.out.trans ho)); have b0 := (blk_cell HB3.out 0); have b1 := (blk_cell HB3.out 1); have b2 := (blk_cell HB3.out 2); have b3 := (blk_cell HB3.out 3); have g0 := blk_free HB3.out 0; have g1 := blk_free HB3.out 1; have g2 := blk_free HB3.out 2; have g3 := blk_free HB3.out 3; dsimp at b0 b1 b2 b3; clear hr ho))
       refine bodyPost_ret (results_cell_row rfl _ _ W.heap.size 25 #[.int .i64 6, .string ⟨#[]⟩, .slice A2 u.1.length c2, .slice A3 u.2.length c3] (0, 0) _ rfl (blk4 HB3.out _ _ _ _) Tryz.underlying25 rfl (by kernel_rfl)) rfl ?_
       exact value_end (j := ⟨6, bsJ [], u.1, u.2⟩) HX.out HR3.out HN3.out HRW.out HJ2.out HJ3.out
   ·rw [if_neg hbr] at hF
    have HX := am (show o = .err 40 p by injection hF with hF; exact hF.symm)
    have e91 : ((c.toNat : Int) == 91) = false := (beq_u8 c 91 (by omega)).trans (decide_eq_false (fun h => hbr (.inl h)))
    have e123 : ((c.toNat : Int) == 123) = false := (beq_u8 c 123 (by omega)).trans (decide_eq_false (fun h => hbr (.inr h)))
    clear hF hbr
    go_enter Tryz.func56, Tryz.ntmps56
    go_wp2_with (first | (go_at_call 104; (with_reducible refine (peek_ok R s p c HC.out _ ?rd1x50).mono ?_); (case rd1x50 => exact HR1.out); rintro e w1 ⟨rfl, hb⟩; have HR2 := am (HR1.out.drawn hb); have HN2 := am ((On.refl R (W.alloc zJ)).drawn hb); have d2 := HR2.out.c1; clear hb) | (go_at_call 57; (with_reducible refine (fail_calls _ _ _ _).mono ?_); rintro e w9 ⟨rfl, hb⟩; have HB9 := am hb; clear hb))
    exact ⟨rfl, Ends.no HX.out (HOW.out.trans (HN2.out.drawn HB9.out))⟩
theorem value_ok (s : ByteArray) (k : Nat) (hl : s.size ≤ 10000000000) (R : Nat) : ∀ r, r ≤ 32 → ValOK R s k r (32 - (r : Int))
 | 0, h => value_step R s k 0 hl h (fun r' hr => by omega)
 | r + 1, h => value_step R s k (r + 1) hl h (fun r' hr => by have e : r' = r := (by omega); rw [e]; exact value_ok s k hl R r (by omega))
theorem fault_assert (e a : Int) (w : World) : (Instr.typeAssert (flt e a) 20 103 true).run Tryz.prog w = .ok (.tuple #[.agg #[.int .i64 e, .int .i64 a], .bool true]) w := by
 first
  | exact run_typeAssert_sameB _ _ _
  | (unfold Instr.typeAssert; simp [go_sem, Tryz.underlying103])
set_option maxRecDepth 1000000 in
set_option maxHeartbeats 2000000 in
theorem catch_fault (B : Nat) (e a : Int) (z0 z1 z2 z3 : Value) (x y : Int) (w : World) (h0 : w.heap[B]? = some (.cells #[z0, z1, z2, z3] 25 (0, 0))) (h1 : w.heap[B + 1]? = some (.cells #[.int .i64 x] 28 (0, 0))) (h2 : w.heap[B + 2]? = some (.cells #[.int .i64 y] 3 (0, 0))) :
  CallsD Tryz.prog 54 #[.pointer (some ⟨B, 0, none⟩), .pointer (some ⟨B + 1, 0, none⟩), .pointer (some ⟨B + 2, 0, none⟩)] (.panicking [{ v := flt e a, recovered := false }]) w fun en u' w' =>
   en = .returned (.tuple #[]) ∧ u' = .panicking [{ v := flt e a, recovered := true }] ∧ Below B w w' ∧
    w'.heap[B]? = some (.cells #[.int .i64 0, .string ⟨#[]⟩, .slice none 0 0, .slice none 0 0] 25 (0, 0)) ∧ w'.heap[B + 1]? = some (.cells #[.int .i64 e] 28 (0, 0)) ∧ w'.heap[B + 2]? = some (.cells #[.int .i64 a] 3 (0, 0)) := by
 have hlt := lt_of_block h2
 have H0 := am h0
 have H1 := am h1
 have H2 := am h2
 clear h0 h1 h2
 refine callsD_of_wpS Tryz.func54 rfl fun c₀ cs hu => ?_
 simp only [Tryz.ntmps54, List.size_toArray, List.length_cons, List.length_nil, Nat.reduceAdd, Nat.reduceSub, Array.replicate_succ, Array.replicate_zero, List.push_toArray, List.append_toArray, List.nil_append, List.cons_append]
 apply wpS_seq
 apply wpS_region
 simp [wpOpsS, go_sem, recoverD, hu, Exit.thenS]
 apply wpS_seq
 apply wpS_region
 simp [wpOpsS, go_sem, Exit.thenS]
 refine wpS_cond (t := true) rfl ?_
 rw [if_pos rfl]
 refine wpS_of_wp ?_
 have hta := fault_assert e a
 have HF := am (heap_alloc_new w (Obj.cells #[.int .i64 e, .int .i64 a] 103))
 have HB := am (below_alloc (Below.refl w.heap.size w) (Obj.cells #[.int .i64 e, .int .i64 a] 103))
 go_wp2
 generalize hw1 : w.alloc (Obj.cells #[.int .i64 e, .int .i64 a] 103) = w1 at *
 have HC0 := am ((HB.out.block B (by omega)).trans H0.out)
 have HC1 := am ((HB.out.block (B + 1) (by omega)).trans H1.out)
 have HC2 := am ((HB.out.block (B + 2) (by omega)).trans H2.out)
 clear hw1
 refine start_ (n := 8) (S := fun w' => w'.cell? ⟨w.heap.size, 0, none⟩ = some (.int .i64 e) ∧ w'.cell? ⟨w.heap.size, 1, none⟩ = some (.int .i64 a)) (ds := []) #[false, false, false, false, false, false, false, false] (by kernel_rfl) rfl rfl ⟨(blk_cell HF.out 0).trans rfl, (blk_cell HF.out 1).trans rfl⟩ (fun hHeld => ?_)
 have HF2 := am (show w1.drew.heap[w.heap.size]? = _ from HF.out)
 have HB2 := am (below_drew1 HB.out)
 have HD0 := am (show w1.drew.heap[B]? = _ from HC0.out)
 have HD1 := am (show w1.drew.heap[B + 1]? = _ from HC1.out)
 have HD2 := am (show w1.drew.heap[B + 2]? = _ from HC2.out)
 generalize w1.drew = w2 at *
 refine pure_ (i := 0) (N := some 17) (v := ?_) (a' := ?_) #[true, false, false, false, false, false, false, false] rfl rfl (by kernel_rfl) (fun _ _ _ h => h) (Or.inl ⟨by rfl, ?_⟩) ?_ ?_
 rotate_left
 ·intro w'
  go_simp
  with_reducible rfl
 rotate_left
 ·simp only [Act.put, sAx, sZx, sSx, i64_w, i32_w]
  rfl
 refine pure_ (i := 1) (N := some 18) (v := ?_) (a' := ?_) #[true, true, false, false, false, false, false, false] rfl rfl (by kernel_rfl) (fun _ _ _ h => h) (Or.inl ⟨by rfl, ?_⟩) ?_ ?_
 rotate_left
 ·intro w'
  go_simp
  with_reducible rfl
 rotate_left
 ·simp only [Act.put, sAx, sZx, sSx, i64_w, i32_w]
  rfl
 refine pure_ (i := 3) (N := some 20) (v := ?_) (a' := ?_) #[true, true, false, true, false, false, false, false] rfl rfl (by kernel_rfl) (fun _ _ _ h => h) (Or.inl ⟨by rfl, ?_⟩) ?_ ?_
 rotate_left
 ·intro w'
  go_simp
  with_reducible rfl
 rotate_left
 ·simp only [Act.put, sAx, sZx, sSx, i64_w, i32_w]
  rfl
 refine take_ (i := 2) (N := some 19) (v := ?_) (a' := ?_) #[true, true, true, true, false, false, false, false] rfl rfl (by kernel_rfl) (fun _ _ _ h => h) (Or.inl ⟨by rfl, ?_⟩) hHeld ?_ ?_
 rotate_left
 ·rintro w' ⟨s0, s1⟩
  go_simp
  with_reducible rfl
 rotate_left
 ·simp only [Act.put, sAx, sZx, sSx, i64_w, i32_w]
  rfl
 refine take_ (i := 4) (N := some 21) (v := ?_) (a' := ?_) #[true, true, true, true, true, false, false, false] rfl rfl (by kernel_rfl) (fun _ _ _ h => h) (Or.inl ⟨by rfl, ?_⟩) hHeld ?_ ?_
 rotate_left
 ·rintro w' ⟨s0, s1⟩
  go_simp
  with_reducible rfl
 rotate_left
 ·simp only [Act.put, sAx, sZx, sSx, i64_w, i32_w]
  rfl
 have nb0 : B ≠ w.heap.size := by omega
 have nb1 : w.heap.size ≠ B := by omega
 have nb2 : B + 1 ≠ w.heap.size := by omega
 have nb3 : w.heap.size ≠ B + 1 := by omega
 have nb4 : B + 2 ≠ w.heap.size := by omega
 have nb5 : w.heap.size ≠ B + 2 := by omega
 have q0 := blk_cell HD0.out 0
 have q1 := blk_cell HD0.out 1
 have q2 := blk_cell HD0.out 2
 have q3 := blk_cell HD0.out 3
 have p0 := blk_free HD0.out 0
 have p1 := blk_free HD0.out 1
 have p2 := blk_free HD0.out 2
 have p3 := blk_free HD0.out 3
 have q4 := blk_cell HD1.out 0
 have p4 := blk_free HD1.out 0
 have q5 := blk_cell HD2.out 0
 have p5 := blk_free HD2.out 0
 have s0 := hHeld.1
 have s1 := hHeld.2
 dsimp at q0 q1 q2 q3 q4 q5
 refine one_ (i := 5) (N := none) #[true, true, true, true, true, true, false, false] rfl rfl (by kernel_rfl) (by decide) (fun K hK => ?_)
 refine skip_ (w1 := ?_) (by rfl) rfl ?_ ?_
 rotate_left
 ·go_simp
  rfl
 refine hK.out _ _ ⟨by go_simp, by go_simp⟩ (fun hHeld => ?_)
 clear hK K
 refine one_ (i := 6) (N := none) #[true, true, true, true, true, true, true, false] rfl rfl (by kernel_rfl) (by decide) (fun K hK => ?_)
 refine skip_ (w1 := ?_) (by rfl) rfl ?_ ?_
 rotate_left
 ·go_simp
  rfl
 refine hK.out _ _ ⟨by go_simp, by go_simp⟩ (fun hHeld => ?_)
 clear hK K
 refine one_ (i := 7) (N := none) #[true, true, true, true, true, true, true, true] rfl rfl (by kernel_rfl) (by decide) (fun K hK => ?_)
 refine skip_ (w1 := ?_) (by rfl) rfl ?_ ?_
 rotate_left
 ·go_simp
  rfl
 refine hK.out _ _ ⟨by go_simp, by go_simp⟩ (fun hHeld => ?_)
 clear hK K
 refine done_ (by kernel_rfl) ?_
 have hb4 := blk4 HD0.out (.int .i64 0) (.string ⟨#[]⟩) (.slice none 0 0) (.slice none 0 0)
 refine ⟨rfl, _, rfl, _, results_none rfl _ _ _, rfl, rfl, ?_, ?_, ?_, ?_⟩
 ·have m0 : Below B w w2 := HB2.out.mono (by omega)
  refine Below.setCell ?_ (show B ≤ B + 2 by omega) _
  refine Below.setCell ?_ (show B ≤ B + 1 by omega) _
  refine Below.setCell ?_ (Nat.le_refl B) _
  refine Below.setCell ?_ (Nat.le_refl B) _
  refine Below.setCell ?_ (Nat.le_refl B) _
  refine Below.setCell ?_ (Nat.le_refl B) _
  exact m0
 ·exact (Below.heap_setCell _ _ _ _ (by show B ≠ B + 2; omega)).trans ((Below.heap_setCell _ _ _ _ (by show B ≠ B + 1; omega)).trans hb4)
 ·refine (Below.heap_setCell _ _ _ _ (by show B + 1 ≠ B + 2; omega)).trans (blk_put (cs := #[.int .i64 x]) ?_ 0 _ rfl)
  exact (Below.heap_setCell _ _ _ _ (by show B + 1 ≠ B; omega)).trans ((Below.heap_setCell _ _ _ _ (by show B + 1 ≠ B; omega)).trans ((Below.heap_setCell _ _ _ _ (by show B + 1 ≠ B; omega)).trans ((Below.heap_setCell _ _ _ _ (by show B + 1 ≠ B; omega)).trans HD1.out)))
 ·refine blk_put (cs := #[.int .i64 y]) ?_ 0 _ rfl
  exact (Below.heap_setCell _ _ _ _ (by show B + 2 ≠ B + 1; omega)).trans ((Below.heap_setCell _ _ _ _ (by show B + 2 ≠ B; omega)).trans ((Below.heap_setCell _ _ _ _ (by show B + 2 ≠ B; omega)).trans ((Below.heap_setCell _ _ _ _ (by show B + 2 ≠ B; omega)).trans ((Below.heap_setCell _ _ _ _ (by show B + 2 ≠ B; omega)).trans HD2.out))))
theorem catch_idle (B : Nat) (w : World) :
  CallsD Tryz.prog 54 #[.pointer (some ⟨B, 0, none⟩), .pointer (some ⟨B + 1, 0, none⟩), .pointer (some ⟨B + 2, 0, none⟩)] .returning w fun en u' w' => en = .returned (.tuple #[]) ∧ u' = .returning ∧ w' = w := by
 refine callsD_of_wpS Tryz.func54 rfl fun c₀ cs hu => ?_
 simp only [Tryz.ntmps54, List.size_toArray, List.length_cons, List.length_nil, Nat.reduceAdd, Nat.reduceSub, Array.replicate_succ, Array.replicate_zero, List.push_toArray, List.append_toArray, List.nil_append, List.cons_append]
 apply wpS_seq
 apply wpS_region
 simp [wpOpsS, go_sem, recoverD, hu, Exit.thenS]
 apply wpS_seq
 apply wpS_region
 simp [wpOpsS, go_sem, Exit.thenS]
 refine wpS_cond (t := false) rfl ?_
 rw [if_neg (by decide)]
 refine wpS_of_wp (wp_skip ?_)
 cases c₀
 simp_all [bodyPostS, results, Tryz.results54]
theorem Tabs.below {W W' : World} (hT : Tabs W) (hb : Below W.heap.size W W') : Tabs W' := by
 have key : ∀ (a : Addr) (v : Value), W.cell? a = some v → W'.cell? a = some v := fun a v h => (hb.cell (World.block_lt_of_cell? W _ h)).trans h
 exact ⟨fun c hc => key _ _ (hT.1 c hc), fun i hi => ⟨key _ _ (hT.2 i hi).1, key _ _ (hT.2 i hi).2⟩⟩
theorem parse_results (B : Nat) (tmps : Array Value) (w : World) (z0 z1 z2 z3 : Value) (e a : Int) (t2 : tmps.getD 2 undef = .pointer (some ⟨B, 0, none⟩)) (t3 : tmps.getD 3 undef = .pointer (some ⟨B + 1, 0, none⟩)) (t4 : tmps.getD 4 undef = .pointer (some ⟨B + 2, 0, none⟩))
  (h0 : w.heap[B]? = some (.cells #[z0, z1, z2, z3] 25 (0, 0))) (h1 : w.heap[B + 1]? = some (.cells #[.int .i64 e] 28 (0, 0))) (h2 : w.heap[B + 2]? = some (.cells #[.int .i64 a] 3 (0, 0))) :
  (results Tryz.f15 tmps).run Tryz.prog w = .ok (.tuple #[.agg #[z0, z1, z2, z3], .int .i64 e, .int .i64 a]) w := by
 have c1 := (blk_cell h1 0).trans rfl
 have c2 := (blk_cell h2 0).trans rfl
 have d0 : w.cell? ⟨B, 0, none⟩ = some z0 := (blk_cell h0 0).trans rfl
 have d1 : w.cell? ⟨B, 1, none⟩ = some z1 := (blk_cell h0 1).trans rfl
 have d2 : w.cell? ⟨B, 2, none⟩ = some z2 := (blk_cell h0 2).trans rfl
 have d3 : w.cell? ⟨B, 3, none⟩ = some z3 := (blk_cell h0 3).trans rfl
 have t2' : tmps[2]?.getD undef = .pointer (some ⟨B, 0, none⟩) := by simpa using t2
 have t3' : tmps[3]?.getD undef = .pointer (some ⟨B + 1, 0, none⟩) := by simpa using t3
 have t4' : tmps[4]?.getD undef = .pointer (some ⟨B + 2, 0, none⟩) := by simpa using t4
 unfold results
 rw [Tryz.results15]
 simp [t2', t3', t4', asAddr, go_sem, c1, c2, d0, d1, d2, d3]
def parseV (B : Nat) (j : J) (e a : Int) (x : Ending) (W : World) : Prop := ∃ v2 v3, x = .returned (.tuple #[.agg #[.int .i64 j.f0, .string j.f1, v2, v3], .int .i64 e, .int .i64 a]) ∧ Kd.string.R 9 W B (fun _ => True) v2 j.f2 ∧ k25.R 25 W B (fun k => some k ≠ v2.ownBlock) v3 j.f3
def zV : J := ⟨0, bsJ [], [], []⟩
def parseEnd (B : Nat) (o : Out J) (x : Ending) (W : World) : Prop :=
 match o with
 | .val j _ => parseV B j 0 0 x W
 | .err e q => parseV B zV e q x W
abbrev pW (s : ByteArray) (W : World) : World := (((W.alloc zJ).alloc (Obj.cells #[.int .i64 0] 28)).alloc (Obj.cells #[.int .i64 0] 3)).alloc (Obj.cells #[.string s, .int .i64 0] 107)
theorem pW_facts (s : ByteArray) (W : World) : RdB (W.heap.size + 1 + 1 + 1) s (0 : Nat) (pW s W) ∧ Below W.heap.size W (pW s W) ∧ (pW s W).heap[W.heap.size]? = some (.cells #[.int .i64 0, .string ⟨#[]⟩, .slice none 0 0, .slice none 0 0] 25 (0, 0)) ∧ (pW s W).heap[W.heap.size + 1]? = some (.cells #[.int .i64 0] 28 (0, 0)) ∧ (pW s W).heap[W.heap.size + 2]? = some (.cells #[.int .i64 0] 3 (0, 0)) := by
 have h1 := heap_alloc_new W zJ
 have h2 := heap_alloc_new (W.alloc zJ) (Obj.cells #[.int .i64 0] 28)
 have h3 := heap_alloc_new ((W.alloc zJ).alloc (Obj.cells #[.int .i64 0] 28)) (Obj.cells #[.int .i64 0] 3)
 have h4 := heap_alloc_new (((W.alloc zJ).alloc (Obj.cells #[.int .i64 0] 28)).alloc (Obj.cells #[.int .i64 0] 3)) (Obj.cells #[.string s, .int .i64 0] 107)
 have e2 : (W.alloc zJ).heap.size = W.heap.size + 1 := by simp
 have e3 : ((W.alloc zJ).alloc (Obj.cells #[.int .i64 0] 28)).heap.size = W.heap.size + 1 + 1 := by simp
 have e4 : (((W.alloc zJ).alloc (Obj.cells #[.int .i64 0] 28)).alloc (Obj.cells #[.int .i64 0] 3)).heap.size = W.heap.size + 1 + 1 + 1 := by simp
 rw [e2] at h2
 rw [e3] at h3
 rw [e4] at h4
 exact ⟨h4, below_alloc (below_alloc (below_alloc (below_alloc (Below.refl _ _) _) _) _) _, Below.alloc_at (Below.alloc_at (Below.alloc_at h1)), Below.alloc_at (Below.alloc_at h2), Below.alloc_at h3⟩
theorem R_at_base {α : Type} {dd : Kd α} {e base B : Nat} {w : World} {ok : Nat → Prop} {v : Value} {l : List α} (h : dd.R e w base ok v l) (hb : B + 4 ≤ base) : dd.R e w B (fun k => ok k ∧ B + 4 ≤ k) v l :=
 Kd.R_lower (Kd.R_mono (Kd.R_bound h) (fun k hk => ⟨hk.1, by have := hk.2.1; omega⟩)) (by omega)
theorem On.low {R : Nat} {W W' : World} (h : On (R + 1 + 1 + 1) W W') : Below R W W' := h.below.mono (by omega)
theorem pset {B : Nat} {s : ByteArray} {q : Int} {W w : World} (hR : RdB (B + 1 + 1 + 1) s q w) (hO : On (B + 1 + 1 + 1) W w) (c0 c1 c2 c3 : Value) :
  RdB (B + 1 + 1 + 1) s q ((((w.setCell ⟨B, 0, none⟩ c0).setCell ⟨B, 1, none⟩ c1).setCell ⟨B, 2, none⟩ c2).setCell ⟨B, 3, none⟩ c3) ∧
  ∀ (b : Nat) (o : Obj), b ≠ B → w.heap[b]? = some o → ((((w.setCell ⟨B, 0, none⟩ c0).setCell ⟨B, 1, none⟩ c1).setCell ⟨B, 2, none⟩ c2).setCell ⟨B, 3, none⟩ c3).heap[b]? = some o := by
 have key : ∀ (b : Nat) (o : Obj), b ≠ B → w.heap[b]? = some o → ((((w.setCell ⟨B, 0, none⟩ c0).setCell ⟨B, 1, none⟩ c1).setCell ⟨B, 2, none⟩ c2).setCell ⟨B, 3, none⟩ c3).heap[b]? = some o := fun b o hne h =>
  (Below.heap_setCell _ _ _ _ hne).trans ((Below.heap_setCell _ _ _ _ hne).trans ((Below.heap_setCell _ _ _ _ hne).trans ((Below.heap_setCell _ _ _ _ hne).trans h)))
 exact ⟨key _ _ (by omega) hR, key⟩
abbrev setB (w : World) (B : Nat) (c0 c1 c2 c3 : Value) : World := (((w.setCell ⟨B, 0, none⟩ c0).setCell ⟨B, 1, none⟩ c1).setCell ⟨B, 2, none⟩ c2).setCell ⟨B, 3, none⟩ c3
theorem setB_heap (w : World) (B b : Nat) (c0 c1 c2 c3 : Value) (h : b ≠ B) : (setB w B c0 c1 c2 c3).heap[b]? = w.heap[b]? := by
 unfold setB
 rw [Below.heap_setCell _ _ _ _ h, Below.heap_setCell _ _ _ _ h, Below.heap_setCell _ _ _ _ h, Below.heap_setCell _ _ _ _ h]
theorem setB_size (w : World) (B : Nat) (c0 c1 c2 c3 : Value) : (setB w B c0 c1 c2 c3).heap.size = w.heap.size := by
 unfold setB
 rw [World.size_setCell, World.size_setCell, World.size_setCell, World.size_setCell]
theorem setB_below {W w : World} {B : Nat} (h : Below B W w) (c0 c1 c2 c3 : Value) : Below B W (setB w B c0 c1 c2 c3) :=
 Below.setCell (Below.setCell (Below.setCell (Below.setCell h (Nat.le_refl B) _) (Nat.le_refl B) _) (Nat.le_refl B) _) (Nat.le_refl B) _
theorem R_fin {α : Type} {dd : Kd α} {e B : Nat} {w w' : World} {ok : Nat → Prop} {v : Value} {l : List α} (h : dd.R e w B (fun k => ok k ∧ B + 4 ≤ k) v l) (hk : ∀ k, B + 4 ≤ k → k < w.heap.size → w'.heap[k]? = w.heap[k]?) : dd.R e w' B ok v l :=
 Kd.R_mono (Kd.R_move (Kd.R_bound h) (fun k hh => hk k hh.1.2 hh.2.2.1)) (fun _ hh => hh.1.1)
set_option maxRecDepth 1000000 in
set_option maxHeartbeats 4000000 in
theorem parse_calls (s : ByteArray) (k : Nat) (o : Out J) (W : World) (hT : Tabs W) (hF : parseJ s.data.toList k = some o) : Calls Tryz.prog 15 #[.string s] W fun x W' => parseEnd W.heap.size o x W' ∧ Below W.heap.size W W' := by
 have hmf : ∀ (fn : Fn) (first cap : Array Value) (w : World), (Instr.makeFunc fn first cap).run Tryz.prog w = .ok (.func fn first cap) w := fun _ _ _ _ => rfl
 unfold parseJ at hF
 by_cases hlong : 16384 < s.data.toList.length
 ·rw [if_pos hlong] at hF
  have HX := am (show o = .err 1 0 by injection hF with hF; exact hF.symm)
  rw [size_data] at hlong
  have a1 : (16384 : Int) < (s.size : Int) := by omega
  clear hF hlong hT
  go_enter_defers Tryz.func15, Tryz.ntmps15
  go_wp2
  have f1 := heap_alloc_new W zJ
  have f2 := heap_alloc_new (W.alloc zJ) (Obj.cells #[.int .i64 1] 28)
  have f3 := heap_alloc_new ((W.alloc zJ).alloc (Obj.cells #[.int .i64 1] 28)) (Obj.cells #[.int .i64 0] 3)
  have e2 : (W.alloc zJ).heap.size = W.heap.size + 1 := by simp
  have e3 : ((W.alloc zJ).alloc (Obj.cells #[.int .i64 1] 28)).heap.size = W.heap.size + 1 + 1 := by simp
  rw [e2] at f2
  rw [e3] at f3
  refine ⟨_, parse_results W.heap.size _ _ _ _ _ _ 1 0 rfl rfl rfl (Below.alloc_at (Below.alloc_at f1)) (Below.alloc_at f2) f3, ?_, below_alloc (below_alloc (below_alloc (Below.refl _ _) _) _) _⟩
  rw [HX.out]
  exact ⟨_, _, rfl, Kd.R_nil _ _ _ _ _, Kd.R_nil _ _ _ _ _⟩
 ·rw [if_neg hlong] at hF
  rw [size_data] at hlong
  have a1 : ¬ (16384 : Int) < (s.size : Int) := by omega
  obtain ⟨hR0, hB0, hK0, hK1, hK2⟩ := pW_facts s W
  have HR0 := am hR0
  have HB0 := am hB0
  have HK0 := am hK0
  have HK1 := am hK1
  have HK2 := am hK2
  have HT := am (fun (w : World) (ho : On (W.heap.size + 1 + 1 + 1) (pW s W) w) => (hT.below hB0).on hR0 ho)
  have HVal := am (fun (q : Nat) (o : Out J) (w : World) (h1 : q ≤ s.size) (h2 : valueF s.data.toList k 32 q = some o) (h3 : RdB (W.heap.size + 1 + 1 + 1) s q w) (h4 : Tabs w) => (show Calls Tryz.prog 56 #[ptr (W.heap.size + 1 + 1 + 1), .int .i64 0] w (Ends (W.heap.size + 1 + 1 + 1) s w o (jV w.heap.size)) from value_ok s k (by omega) (W.heap.size + 1 + 1 + 1) 32 (Nat.le_refl _) q o w h1 h2 h3 h4))
  have hp0 := blanks_le s.data.toList 0 (Nat.zero_le _)
  rw [size_data] at hp0
  have esz : (pW s W).heap.size = W.heap.size + 4 := by simp [pW]
  have HSB : ∀ {w : World}, On (W.heap.size + 1 + 1 + 1) (pW s W) w → W.heap.size + 4 ≤ w.heap.size := fun ho => by have := ho.size; omega
  clear hR0 hB0 hK0 hK1 hK2 hT
  generalize hg0 : blanksF s.data.toList 0 = p0 at *
  have HG0 := am hg0
  clear hg0
  cases hv : valueF s.data.toList k 32 p0 with
  | none => rw [hv] at hF; cases hF
  | some o1 =>
   rw [hv] at hF
   have HE := am hv
   cases o1 with
   | err e q =>
    have HX := am (show o = .err e q by injection hF with hF; exact hF.symm)
    clear hv hF
    go_enter_defers Tryz.func15, Tryz.ntmps15
    go_wp2_with (first | (go_at_call 55; (with_reducible refine (blanks_calls (W.heap.size + 1 + 1 + 1) s 0 (by omega) (by omega) _ ?rd1a).mono ?_); (case rd1a => exact HR0.out); rintro e w1 ⟨rfl, hr, ho⟩; rw [HG0.out] at hr; have HR1 := am hr; have HO1 := am ho; clear hr ho) | (go_at_call 56; (with_reducible refine (Calls.err_of (HVal.out p0 _ _ hp0 HE.out HR1.out (HT.out _ HO1.out)) rfl).mono ?_); rintro e w2 ⟨rfl, ho⟩; have HO2 := am (HO1.out.trans ho); clear ho))
    have hk0 := blk_on HK0.out (by omega) HO2.out
    have hk1 := blk_on HK1.out (by omega) HO2.out
    have hk2 := blk_on HK2.out (by omega) HO2.out
    refine leaves_cons (f := 54) (args := #[.pointer (some ⟨W.heap.size, 0, none⟩), .pointer (some ⟨W.heap.size + 1, 0, none⟩), .pointer (some ⟨W.heap.size + 2, 0, none⟩)]) (by simp) (by simp [go_sem]) ?_
    refine (catch_fault W.heap.size e q _ _ _ _ 0 0 _ hk0 hk1 hk2).mono ?_
    rintro en u' w3 ⟨rfl, rfl, hb, h0, h1, h2⟩
    refine ⟨_, parse_results W.heap.size _ _ _ _ _ _ e q rfl rfl rfl h0 h1 h2, ?_, (HB0.out.trans (On.low HO2.out)).trans hb⟩
    rw [HX.out]
    exact ⟨_, _, rfl, Kd.R_nil _ _ _ _ _, Kd.R_nil _ _ _ _ _⟩
   | val j q1 =>
    obtain ⟨hq0, hq1⟩ := valueF_val _ _ _ _ _ _ (by rw [size_data]; exact hp0) hv
    rw [size_data] at hq1
    simp only at hF
    generalize hg1 : blanksF s.data.toList q1 = q2 at *
    have HG1 := am hg1
    clear hv hg1
    have hq20 : (0 : Int) ≤ (q2 : Int) := by omega
    by_cases hlt : q2 < s.data.toList.length
    ·rw [if_pos hlt] at hF
     rw [size_data] at hlt
     have HX := am (show o = .err 4 q2 by injection hF with hF; exact hF.symm)
     have a2 : (q2 : Int) < (s.size : Int) := by omega
     clear hF hlt
     go_enter_defers Tryz.func15, Tryz.ntmps15
     go_wp2_with (first | (go_at_call 55; (with_reducible refine (blanks_calls (W.heap.size + 1 + 1 + 1) s 0 (by omega) (by omega) _ ?rd1b).mono ?_); (case rd1b => exact HR0.out); rintro e w1 ⟨rfl, hr, ho⟩; rw [HG0.out] at hr; have HR1 := am hr; have HO1 := am ho; clear hr ho) | (go_at_call 56; (with_reducible refine (Calls.val_of (HVal.out p0 _ _ hp0 HE.out HR1.out (HT.out _ HO1.out)) rfl).mono ?_); rintro e w2 ⟨v, rfl, ⟨v2, v3, rfl, j2, j3⟩, hr, ho⟩; have HR2 := am hr; have HO2 := am (HO1.out.trans ho); have j2 := R_at_base j2 (HSB HO1.out); have j3 := R_at_base j3 (HSB HO1.out); have HJ2 := am j2; have HJ3 := am j3; have HW1 := am HO1.out.size; obtain ⟨A2, c2, e2⟩ := Kd.R_slice j2; obtain ⟨A3, c3, e3⟩ := Kd.R_slice j3; subst e2 e3; have hk2 := blk_on HK0.out (by omega) HO2.out; have b0 : w2.cell? ⟨W.heap.size, 0, none⟩ = some (.int .i64 0) := (blk_cell hk2 0).trans rfl; have b1 : w2.cell? ⟨W.heap.size, 1, none⟩ = some (.string ⟨#[]⟩) := (blk_cell hk2 1).trans rfl; have b2 : w2.cell? ⟨W.heap.size, 2, none⟩ = some (.slice none 0 0) := (blk_cell hk2 2).trans rfl; have b3 : w2.cell? ⟨W.heap.size, 3, none⟩ = some (.slice none 0 0) := (blk_cell hk2 3).trans rfl; have g0 := blk_free hk2 0; have g1 := blk_free hk2 1; have g2 := blk_free hk2 2; have g3 := blk_free hk2 3; have HB4 := am (blk4 hk2 (.int .i64 j.f0) (.string j.f1) (.slice A2 j.f2.length c2) (.slice A3 j.f3.length c3)); have HS3 := am (pset HR2.out HO2.out (.int .i64 j.f0) (.string j.f1) (.slice A2 j.f2.length c2) (.slice A3 j.f3.length c3)); clear hr ho j2 j3 hk2) | (go_at_call 55; (with_reducible refine (blanks_calls (W.heap.size + 1 + 1 + 1) s q1 (by omega) hq1 _ ?rd3b).mono ?_); (case rd3b => exact HS3.out.1); rintro e w3 ⟨rfl, hr, ho⟩; rw [HG1.out] at hr; have HR3 := am hr; have HO3 := am ho; have d0 := hr.c0; have d1 := hr.c1; clear hr ho))
     go_quiet (fail)
     go_wp2_with (go_at_call 57; (with_reducible refine (fail_calls _ _ _ _).mono ?_); rintro e w9 ⟨rfl, hb⟩; have HB9 := am hb; clear hb)
     have HO9 := am (show On (W.heap.size + 1 + 1 + 1) _ w9 from (HO3.out.drewN _).drawn HB9.out)
     have hk0 := blk_on HB4.out (by omega) HO9.out
     have hk1 := blk_on (HS3.out.2 _ _ (by omega) (blk_on HK1.out (by omega) HO2.out)) (by omega) HO9.out
     have hk2 := blk_on (HS3.out.2 _ _ (by omega) (blk_on HK2.out (by omega) HO2.out)) (by omega) HO9.out
     refine leaves_cons (f := 54) (args := #[.pointer (some ⟨W.heap.size, 0, none⟩), .pointer (some ⟨W.heap.size + 1, 0, none⟩), .pointer (some ⟨W.heap.size + 2, 0, none⟩)]) (by simp) (by simp [go_sem]) ?_
     refine (catch_fault W.heap.size 4 q2 _ _ _ _ 0 0 _ hk0 hk1 hk2).mono ?_
     rintro en u' w10 ⟨rfl, rfl, hb, h0, h1, h2⟩
     refine ⟨_, parse_results W.heap.size _ _ _ _ _ _ 4 q2 rfl rfl rfl h0 h1 h2, ?_, ?_⟩
     ·rw [HX.out]
      exact ⟨_, _, rfl, Kd.R_nil _ _ _ _ _, Kd.R_nil _ _ _ _ _⟩
     ·exact ((HB0.out.trans (On.low HO2.out)).trans ((setB_below (Below.refl _ _) _ _ _ _).trans (On.low HO9.out))).trans hb
    ·rw [if_neg hlt] at hF
     rw [size_data] at hlt
     have HX := am (show o = .val j 0 by injection hF with hF; exact hF.symm)
     have a2 : ¬ (q2 : Int) < (s.size : Int) := by omega
     clear hF hlt
     go_enter_defers Tryz.func15, Tryz.ntmps15
     go_wp2_with (first | (go_at_call 55; (with_reducible refine (blanks_calls (W.heap.size + 1 + 1 + 1) s 0 (by omega) (by omega) _ ?rd1c).mono ?_); (case rd1c => exact HR0.out); rintro e w1 ⟨rfl, hr, ho⟩; rw [HG0.out] at hr; have HR1 := am hr; have HO1 := am ho; clear hr ho) | (go_at_call 56; (with_reducible refine (Calls.val_of (HVal.out p0 _ _ hp0 HE.out HR1.out (HT.out _ HO1.out)) rfl).mono ?_); rintro e w2 ⟨v, rfl, ⟨v2, v3, rfl, j2, j3⟩, hr, ho⟩; have HR2 := am hr; have HO2 := am (HO1.out.trans ho); have j2 := R_at_base j2 (HSB HO1.out); have j3 := R_at_base j3 (HSB HO1.out); have HJ2 := am j2; have HJ3 := am j3; have HW1 := am HO1.out.size; obtain ⟨A2, c2, e2⟩ := Kd.R_slice j2; obtain ⟨A3, c3, e3⟩ := Kd.R_slice j3; subst e2 e3; have hk2 := blk_on HK0.out (by omega) HO2.out; have b0 : w2.cell? ⟨W.heap.size, 0, none⟩ = some (.int .i64 0) := (blk_cell hk2 0).trans rfl; have b1 : w2.cell? ⟨W.heap.size, 1, none⟩ = some (.string ⟨#[]⟩) := (blk_cell hk2 1).trans rfl; have b2 : w2.cell? ⟨W.heap.size, 2, none⟩ = some (.slice none 0 0) := (blk_cell hk2 2).trans rfl; have b3 : w2.cell? ⟨W.heap.size, 3, none⟩ = some (.slice none 0 0) := (blk_cell hk2 3).trans rfl; have g0 := blk_free hk2 0; have g1 := blk_free hk2 1; have g2 := blk_free hk2 2; have g3 := blk_free hk2 3; have HB4 := am (blk4 hk2 (.int .i64 j.f0) (.string j.f1) (.slice A2 j.f2.length c2) (.slice A3 j.f3.length c3)); have HS3 := am (pset HR2.out HO2.out (.int .i64 j.f0) (.string j.f1) (.slice A2 j.f2.length c2) (.slice A3 j.f3.length c3)); clear hr ho j2 j3 hk2) | (go_at_call 55; (with_reducible refine (blanks_calls (W.heap.size + 1 + 1 + 1) s q1 (by omega) hq1 _ ?rd3c).mono ?_); (case rd3c => exact HS3.out.1); rintro e w3 ⟨rfl, hr, ho⟩; rw [HG1.out] at hr; have HR3 := am hr; have HO3 := am ho; have d0 := hr.c0; have d1 := hr.c1; clear hr ho))
     have hk0 := blk_on HB4.out (by omega) HO3.out
     have hk1 := blk_on (HS3.out.2 _ _ (by omega) (blk_on HK1.out (by omega) HO2.out)) (by omega) HO3.out
     have hk2 := blk_on (HS3.out.2 _ _ (by omega) (blk_on HK2.out (by omega) HO2.out)) (by omega) HO3.out
     have k00 : w3.cell? ⟨W.heap.size, 0, none⟩ = some (.int .i64 j.f0) := (blk_cell hk0 0).trans rfl
     have k01 : w3.cell? ⟨W.heap.size, 1, none⟩ = some (.string j.f1) := (blk_cell hk0 1).trans rfl
     have k02 : w3.cell? ⟨W.heap.size, 2, none⟩ = some (.slice A2 j.f2.length c2) := (blk_cell hk0 2).trans rfl
     have k03 : w3.cell? ⟨W.heap.size, 3, none⟩ = some (.slice A3 j.f3.length c3) := (blk_cell hk0 3).trans rfl
     have k10 : w3.cell? ⟨W.heap.size + 1, 0, none⟩ = some (.int .i64 0) := (blk_cell hk1 0).trans rfl
     have k20 : w3.cell? ⟨W.heap.size + 1 + 1, 0, none⟩ = some (.int .i64 0) := (blk_cell hk2 0).trans rfl
     have x00 := blk_free hk0 0
     have x01 := blk_free hk0 1
     have x02 := blk_free hk0 2
     have x03 := blk_free hk0 3
     have x10 := blk_free hk1 0
     have x20 : w3.frozen? ⟨W.heap.size + 1 + 1, 0, none⟩ = false := blk_free hk2 0
     have HH0 := am hk0
     have HH1 := am hk1
     have HH2 := am hk2
     clear hk0 hk1 hk2 b0 b1 b2 b3 g0 g1 g2 g3
     go_quiet (fail)
     go_wp2
     refine leaves_cons (f := 54) (args := #[.pointer (some ⟨W.heap.size, 0, none⟩), .pointer (some ⟨W.heap.size + 1, 0, none⟩), .pointer (some ⟨W.heap.size + 2, 0, none⟩)]) (by simp) (by simp [go_sem]) ?_
     refine (catch_idle W.heap.size _).mono ?_
     rintro en u' w10 ⟨rfl, rfl, rfl⟩
     have q0 := blk4 (show (w3.drewN nq).heap[W.heap.size]? = _ from HH0.out) (.int .i64 j.f0) (.string j.f1) (.slice A2 j.f2.length c2) (.slice A3 j.f3.length c3)
     have q1 := blk_put (cs := #[.int .i64 0]) ((setB_heap (w3.drewN nq) W.heap.size (W.heap.size + 1) (.int .i64 j.f0) (.string j.f1) (.slice A2 j.f2.length c2) (.slice A3 j.f3.length c3) (by omega)).trans HH1.out) 0 (.int .i64 0) rfl
     have q2' := blk_put (cs := #[.int .i64 0]) ((Below.heap_setCell (setB (w3.drewN nq) W.heap.size (.int .i64 j.f0) (.string j.f1) (.slice A2 j.f2.length c2) (.slice A3 j.f3.length c3)) ⟨W.heap.size + 1, 0, none⟩ (.int .i64 0) (W.heap.size + 2) (by show W.heap.size + 2 ≠ W.heap.size + 1; omega)).trans ((setB_heap (w3.drewN nq) W.heap.size (W.heap.size + 2) (.int .i64 j.f0) (.string j.f1) (.slice A2 j.f2.length c2) (.slice A3 j.f3.length c3) (by omega)).trans HH2.out)) 0 (.int .i64 0) rfl
     refine ⟨_, parse_results W.heap.size _ _ _ _ _ _ 0 0 rfl rfl rfl ((Below.heap_setCell _ _ _ _ (by show W.heap.size ≠ W.heap.size + 2; omega)).trans ((Below.heap_setCell _ _ _ _ (by show W.heap.size ≠ W.heap.size + 1; omega)).trans q0)) ((Below.heap_setCell _ _ _ _ (by show W.heap.size + 1 ≠ W.heap.size + 2; omega)).trans q1) q2', ?_, ?_⟩
     ·rw [HX.out]
      have hkeep : ∀ k, W.heap.size + 4 ≤ k → k < w2.heap.size → (((setB (w3.drewN nq) W.heap.size (.int .i64 j.f0) (.string j.f1) (.slice A2 j.f2.length c2) (.slice A3 j.f3.length c3)).setCell ⟨W.heap.size + 1, 0, none⟩ (.int .i64 0)).setCell ⟨W.heap.size + 1 + 1, 0, none⟩ (.int .i64 0)).heap[k]? = w2.heap[k]? := fun k h1 h2 =>
       (Below.heap_setCell _ _ _ _ (by show k ≠ W.heap.size + 1 + 1; omega)).trans ((Below.heap_setCell _ _ _ _ (by show k ≠ W.heap.size + 1; omega)).trans ((setB_heap _ _ k _ _ _ _ (by omega)).trans ((HO3.out.kept k (by omega) (by rw [setB_size]; exact h2)).trans (setB_heap _ _ k _ _ _ _ (by omega)))))
      exact ⟨_, _, rfl, R_fin HJ2.out hkeep, R_fin HJ3.out hkeep⟩
     ·have m1 := (HB0.out.trans (On.low HO2.out)).trans ((setB_below (Below.refl _ _) (.int .i64 j.f0) (.string j.f1) (.slice A2 j.f2.length c2) (.slice A3 j.f3.length c3)).trans (On.low (HO3.out.drewN nq)))
      exact Below.setCell (Below.setCell (setB_below m1 _ _ _ _) (show W.heap.size ≤ W.heap.size + 1 by omega) _) (show W.heap.size ≤ W.heap.size + 1 + 1 by omega) _
theorem strCells_cells' (s : ByteArray) : strCells s = cellsOf s.data.toList := rfl
theorem Tabs.bel {W W' : World} (hT : Tabs W) (hb : Below W.heap.size W W') : Tabs W' := by
 have key : ∀ (a : Addr) (v : Value), W.cell? a = some v → W'.cell? a = some v := fun a v h => (hb.cell (World.block_lt_of_cell? W _ h)).trans h
 exact ⟨fun c hc => key _ _ (hT.1 c hc), fun i hi => ⟨key _ _ (hT.2 i hi).1, key _ _ (hT.2 i hi).2⟩⟩
structure St where
 out : List UInt8
 e : Nat
def failF (st : St) (e : Nat) : St := if st.e = 0 then ⟨st.out, e⟩ else st
def putF (free : Bool) (st : St) (s : List UInt8) : St := if st.e ≠ 0 then st else if free = false ∧ 16384 < st.out.length + s.length then ⟨st.out, 1⟩ else ⟨st.out ++ s, 0⟩
structure Wr (Wd : Nat) (free : Bool) (st : St) (sl : Value) (W : World) : Prop where
 blk : W.heap[Wd]? = some (.cells #[sl, .bool free, .int .i64 st.e] 158 (0, 0))
 own : Own (Wd + 1) W sl st.out
structure WrOn (Wd : Nat) (sl sl' : Value) (W W' : World) : Prop where
 low : Below Wd W W'
 kept : ∀ b, b < W.heap.size → b ≠ Wd → some b ≠ sl.ownBlock → W'.heap[b]? = W.heap[b]?
 size : W.heap.size ≤ W'.heap.size
 at_ : sl'.ownBlock = sl.ownBlock ∨ ∃ b, sl'.ownBlock = some b ∧ W.heap.size ≤ b
theorem WrOn.refl (Wd : Nat) (sl : Value) (W : World) : WrOn Wd sl sl W W := ⟨Below.refl _ _, fun _ _ _ _ => rfl, Nat.le_refl _, .inl rfl⟩
theorem WrOn.ne {Wd : Nat} {sl sl' : Value} {W W' : World} (h : WrOn Wd sl sl' W W') {b : Nat} (hb : b < W.heap.size) (hne : some b ≠ sl.ownBlock) : some b ≠ sl'.ownBlock := by
 rcases h.at_ with h1 | ⟨c, h1, h2⟩
 ·rw [h1]; exact hne
 ·rw [h1]
  intro hh
  injection hh with hh
  omega
theorem WrOn.trans {Wd : Nat} {sl sl1 sl2 : Value} {W W1 W2 : World} (h : WrOn Wd sl sl1 W W1) (h' : WrOn Wd sl1 sl2 W1 W2) : WrOn Wd sl sl2 W W2 := by
 refine ⟨h.low.trans h'.low, fun b hb hne hs => (h'.kept b (Nat.lt_of_lt_of_le hb h.size) hne (h.ne hb hs)).trans (h.kept b hb hne hs), Nat.le_trans h.size h'.size, ?_⟩
 rcases h'.at_ with h1 | ⟨c, h1, h2⟩
 ·rcases h.at_ with h3 | ⟨d, h3, h4⟩
  ·exact .inl (h1.trans h3)
  ·exact .inr ⟨d, h1.trans h3, h4⟩
 ·exact .inr ⟨c, h1, Nat.le_trans h.size h2⟩
theorem WrOn.of_below {Wd : Nat} {sl : Value} {W W' : World} (hW : Wd ≤ W.heap.size) (h : Below W.heap.size W W') : WrOn Wd sl sl W W' :=
 ⟨h.mono hW, fun b hb _ _ => h.block b hb, h.size, .inl rfl⟩
theorem Wr.lt {Wd : Nat} {free : Bool} {st : St} {sl : Value} {W : World} (h : Wr Wd free st sl W) : Wd < W.heap.size := lt_of_block h.blk
theorem Wr.below {Wd : Nat} {free : Bool} {st : St} {sl : Value} {W W' : World} (h : Wr Wd free st sl W) (hb : Below W.heap.size W W') : Wr Wd free st sl W' :=
 ⟨(hb.block Wd h.lt).trans h.blk, h.own.heap hb.size fun g hg => hb.block g (h.own.lt g hg).2⟩
theorem Wr.slice {Wd : Nat} {free : Bool} {st : St} {sl : Value} {W : World} (h : Wr Wd free st sl W) : ∃ A c, sl = .slice A st.out.length c := h.own.slice
theorem Wr.setE {Wd : Nat} {free : Bool} {st : St} {sl : Value} {W : World} (h : Wr Wd free st sl W) (e : Nat) (x : Int) (hx : x = (e : Int)) : Wr Wd free ⟨st.out, e⟩ sl (W.setCell ⟨Wd, 2, none⟩ (.int .i64 x)) ∧ WrOn Wd sl sl W (W.setCell ⟨Wd, 2, none⟩ (.int .i64 x)) := by
 subst hx
 refine ⟨⟨(blk_set 2 _ h.blk).trans rfl, h.own.heap (by rw [World.size_setCell]; exact Nat.le_refl _) fun g hg => Below.heap_setCell _ _ _ _ (by have := (h.own.lt g hg).1; show g ≠ Wd; omega)⟩, ⟨Below.setCell (Below.refl Wd W) (Nat.le_refl Wd) _, fun b _ hne _ => Below.heap_setCell _ _ _ _ hne, by rw [World.size_setCell]; exact Nat.le_refl _, .inl rfl⟩⟩
theorem Wr.app {Wd : Nat} {free : Bool} {st : St} {sl v1 : Value} {l : List UInt8} {W W1 : World} (h : Wr Wd free st sl W) (he : st.e = 0) (ho : Own (Wd + 1) W1 v1 (st.out ++ l)) (hg : W.grownBy W1 sl.ownBlock) (hat : v1.ownBlock = sl.ownBlock ∨ ∃ b, v1.ownBlock = some b ∧ W.heap.size ≤ b) :
  Wr Wd free ⟨st.out ++ l, 0⟩ v1 (W1.setCell ⟨Wd, 0, none⟩ v1) ∧ WrOn Wd sl v1 W (W1.setCell ⟨Wd, 0, none⟩ v1) := by
 have hlt := h.lt
 have hne : some Wd ≠ sl.ownBlock := fun hh => by have := (h.own.lt Wd hh.symm).1; omega
 have hb1 := (hg.block Wd hlt hne).trans h.blk
 refine ⟨⟨?_, ho.heap (by rw [World.size_setCell]; exact Nat.le_refl _) fun g hg => Below.heap_setCell _ _ _ _ (by have := (ho.lt g hg).1; show g ≠ Wd; omega)⟩, ⟨?_, fun b hb hbn hs => (Below.heap_setCell _ _ _ _ hbn).trans (hg.block b hb hs), by rw [World.size_setCell]; exact hg.size, hat⟩⟩
 ·rw [he] at hb1
  exact (blk_set 0 _ hb1).trans rfl
 ·have hb : Below Wd W W1 := ⟨hg.os, hg.tape, hg.output, hg.size, fun k hk => hg.block k (Nat.lt_trans hk hlt) (fun hh => by have := (h.own.lt k hh.symm).1; omega)⟩
  exact Below.setCell hb (Nat.le_refl Wd) _
theorem Own.str {P : Program} {ops : Array Oper} {rest : List Oper} {o : Oper} {a : Act} {Q : Exit → Act → World → Prop} {B : Nat} {W : World} (hgd : o.guard = none) (s x : Operand) (t u : TypeId)
  (ho : o.op = .call { callee := .builtin .append, args := #[s, x], argTypes := #[t, u] }) (ht : P.underlying t = some (.slice 5)) (hu : P.underlying u = some .string) (hinfo : (P.info? 5).map (fun i => (i.zero, i.size, i.bytes)) = some (some (.int .u8 0), 1, 1))
  (v : Value) (l : List UInt8) (y : ByteArray) (hs : a.eval s = v) (hx : a.eval x = .string y) (HO : Own B W v l) (hl : l.length + y.size ≤ 140737488355328)
  (h : ∀ v1 w1, Own B w1 v1 (l ++ y.data.toList) → W.grownBy w1 v.ownBlock → (v1.ownBlock = v.ownBlock ∨ ∃ b, v1.ownBlock = some b ∧ W.heap.size ≤ b) → wpList P ops Q rest (a.put o.dst v1) w1) :
  wpList P ops Q (o :: rest) a W := by
 obtain ⟨i0, hi, hzz⟩ := Option.map_eq_some_iff.1 hinfo
 simp only [Prod.mk.injEq] at hzz
 obtain ⟨hz0, hz1, hz2⟩ := hzz
 obtain ⟨v1, w1, hr, hown, hg, hnil⟩ := Lib.run_append_own_string (P := P) W B t u o.type 5 i0 ht hu hi hz0 hz1 hz2 v l.length (cellsOf l) HO.1 y (by simp only [maxLen]; omega) hl HO.2
 have hat : v1.ownBlock = v.ownBlock ∨ ∃ b, v1.ownBlock = some b ∧ W.heap.size ≤ b := by
  rcases HO.1.2 with ⟨hv, hn⟩ | ⟨g, cap, cur, hv, hbg, hgb, hnc, hcm, hcs, htake⟩
  ·by_cases hm : y.size = 0
   ·rw [hnil.2 ⟨hv, hm⟩, hv]; exact .inl rfl
   ·have h2 := run_append_nil_string (P := P) W t u o.type 5 i0 (.int .u8 0) ht hu hi hz0 y (by omega) (by omega) (by rw [hz2]; omega)
    rw [hv] at hr
    have h3 := hr.symm.trans h2
    injection h3 with h3 _
    rw [h3]
    exact .inr ⟨_, rfl, Nat.le_refl _⟩
  ·by_cases hroom : l.length + y.size ≤ cap
   ·have h2 := Lib.run_append_room_string (P := P) W t u o.type 5 i0 ht hu hi hz1 g l.length cap cur hgb y hroom (by omega)
    rw [hv] at hr
    have h3 := hr.symm.trans h2
    injection h3 with h3 _
    rw [h3, hv]
    exact .inl rfl
   ·have ho1 := HO.1
    rw [hv] at ho1
    have holds : ∀ j u, (cellsOf l)[j]? = some u → W.cell? ((⟨g, 0, none⟩ : Addr).add j) = some u := ho1.cells (g := g) rfl
    have h2 := Lib.run_append_grow_string (P := P) W t u o.type 5 i0 (.int .u8 0) ht hu hi hz0 ⟨g, 0, none⟩ l.length cap (cellsOf l) (by rw [hz1, cellsOf_length]; omega) holds y (by omega) (by omega) (by rw [hz2]; exact growslice_fits (by omega) (by omega))
    rw [hv] at hr
    have h3 := hr.symm.trans h2
    injection h3 with h3 _
    rw [h3]
    exact .inr ⟨_, rfl, Nat.le_refl _⟩
 have e : cellsOf l ++ strCells y = cellsOf (l ++ y.data.toList) := by rw [cellsOf_append, strCells_cells']
 rw [e] at hown
 have ho1 : Own B w1 v1 (l ++ y.data.toList) := ⟨by rw [List.length_append, size_data]; exact hown, Nat.le_trans HO.2 hg.size⟩
 refine wpList_plain hgd fun K' hK' => ?_
 unfold Oper.wp execOp
 simp only [ho, resolve, invoke, builtin, Sem.run_bind, Sem.run_pure, Result.andThen_ok, List.map_toArray, List.map_cons, List.map_nil, hs, hx, hr]
 exact hK' _ _ (h v1 w1 ho1 hg hat)
theorem bool_of (b : Bool) : b = true ∨ b = false := by cases b; exact .inr rfl; exact .inl rfl
set_option maxRecDepth 1000000 in
set_option maxHeartbeats 4000000 in
theorem wfail_calls (Wd : Nat) (free : Bool) (st : St) (sl : Value) (e : Nat) (x : Int) (hx : x = (e : Int)) (W : World) (h : Wr Wd free st sl W) :
  Calls Tryz.prog 144 #[ptr Wd, .int .i64 x] W fun x W' => x = .returned (.tuple #[]) ∧ Wr Wd free (failF st e) sl W' ∧ WrOn Wd sl sl W W' := by
 subst hx
 have c2 := (blk_cell h.blk 2).trans rfl
 have f2 := blk_free h.blk 2
 have H := am h
 have HX := am (h.setE e e rfl)
 dsimp at c2
 by_cases he : st.e = 0
 ·have hF : failF st e = ⟨st.out, e⟩ := by unfold failF; rw [if_pos he]
  have HF := am hF
  have e0 : ((st.e : Int) == 0) = true := by rw [he]; rfl
  clear h hF
  go_enter Tryz.func144, Tryz.ntmps144
  go_wp2
  go_end0
  rw [HF.out]
  exact ⟨rfl, HX.out.1, HX.out.2⟩
 ·have hF : failF st e = st := by unfold failF; rw [if_neg he]
  have HF := am hF
  have e0 : ((st.e : Int) == 0) = false := by
   have : ¬ (st.e : Int) = 0 := by omega
   simp only [beq_eq_false_iff_ne, ne_eq]
   exact this
  clear h hF he
  go_enter Tryz.func144, Tryz.ntmps144
  go_wp2
  go_end0
  rw [HF.out]
  exact ⟨rfl, H.out, WrOn.refl _ _ _⟩
def WEnds (Wd : Nat) (free : Bool) (sl : Value) (W : World) (st' : St) (x : Ending) (W' : World) : Prop :=
 x = .returned (.tuple #[]) ∧ ∃ sl', Wr Wd free st' sl' W' ∧ WrOn Wd sl sl' W W'
structure Room (free : Bool) (st : St) (n : Nat) : Prop where
 all : st.out.length + n ≤ 4611686018427387904
 fre : free = true → st.out.length + n ≤ 140737488355328
 bnd : free = false → st.out.length ≤ 16384
theorem putF_len (free : Bool) (st : St) (s : List UInt8) : (putF free st s).out.length ≤ st.out.length + s.length := by
 unfold putF
 repeat' split
 ·omega
 ·show st.out.length ≤ _; omega
 ·show (st.out ++ s).length ≤ _; rw [List.length_append]; omega
theorem Room.put {free : Bool} {st : St} {n : Nat} (s : List UInt8) (h : Room free st (s.length + n)) : Room free (putF free st s) n := by
 have h1 := putF_len free st s
 refine ⟨by have := h.all; omega, fun hf => by have := h.fre hf; omega, fun hf => ?_⟩
 have h2 := h.bnd hf
 unfold putF
 repeat' split
 ·exact h2
 ·exact h2
 ·rename_i h3 h4
  show (st.out ++ s).length ≤ _
  rw [List.length_append]
  have : ¬ 16384 < st.out.length + s.length := fun hh => h4 ⟨hf, hh⟩
  omega
theorem Room.fail {free : Bool} {st : St} {n : Nat} (e : Nat) (h : Room free st n) : Room free (failF st e) n := by
 unfold failF
 split
 ·exact ⟨h.all, h.fre, h.bnd⟩
 ·exact h
theorem Room.less {free : Bool} {st : St} {n m : Nat} (h : Room free st n) (hm : m ≤ n) : Room free st m := ⟨by have := h.all; omega, fun hf => by have := h.fre hf; omega, h.bnd⟩
set_option maxRecDepth 1000000 in
set_option maxHeartbeats 4000000 in
theorem put_calls (Wd : Nat) (free : Bool) (st : St) (sl : Value) (s : ByteArray) (W : World) (hl : Room free st s.size) (h : Wr Wd free st sl W) :
  Calls Tryz.prog 146 #[ptr Wd, .string s] W (WEnds Wd free sl W (putF free st s.data.toList)) := by
 obtain ⟨A, c, hsl⟩ := h.slice
 subst hsl
 have hall := hl.all
 have HRM := am hl
 clear hl
 have c0 := (blk_cell h.blk 0).trans rfl
 have c1 := (blk_cell h.blk 1).trans rfl
 have c2 := (blk_cell h.blk 2).trans rfl
 have f0 := blk_free h.blk 0
 have f2 := blk_free h.blk 2
 have H := am h
 dsimp at c0 c1 c2
 by_cases he : st.e = 0
 ·have e0 : ((st.e : Int) != 0) = false := by rw [he]; rfl
  by_cases hlong : free = false ∧ 16384 < st.out.length + s.size
  ·have HF := am (show putF free st s.data.toList = failF st 1 by unfold putF failF; rw [if_neg (by simp [he]), if_pos (by rw [size_data]; exact hlong), if_pos he])
   obtain ⟨hf, hlong⟩ := hlong
   subst hf
   have HONE := am (show (1 : Int) = ((1 : Nat) : Int) from rfl)
   have a1 : (16384 : Int) < (st.out.length : Int) + (s.size : Int) := by omega
   clear h
   go_enter Tryz.func146, Tryz.ntmps146
   go_wp2_with (go_at_call 144; (with_reducible refine (wfail_calls Wd false st (.slice A st.out.length c) 1 1 HONE.out _ ?wr).mono ?_); (case wr => exact H.out); rintro e w1 ⟨rfl, hw, ho⟩; have HW := am hw; have HO := am ho; clear hw ho)
   go_end0
   rw [HF.out]
   exact ⟨rfl, _, HW.out, HO.out⟩
  ·have HF := am (show putF free st s.data.toList = ⟨st.out ++ s.data.toList, 0⟩ by unfold putF; rw [if_neg (by simp [he]), if_neg (by rw [size_data]; exact hlong)])
   have hw : free = true ∨ (free = false ∧ ¬ (16384 : Int) < (st.out.length : Int) + (s.size : Int)) := by
    rcases bool_of free with hf | hf
    ·exact .inl hf
    ·exact .inr ⟨hf, fun hh => hlong ⟨hf, by omega⟩⟩
   clear h hlong
   rcases hw with hf | ⟨hf, a1⟩
   ·subst hf
    go_enter Tryz.func146, Tryz.ntmps146
    go_wp2_with (at_builtin; refine Own.str (B := Wd + 1) rfl (.tmp 31) (.tmp 32) 73 9 rfl Tryz.underlying73 Tryz.underlying9 info5 _ st.out s rfl rfl ?own (HRM.out.fre rfl) ?_; (case own => exact H.out.own); intro v1 w5 ho hg hat; have HA := am (H.out.app he ho hg hat); have b0 := (blk_cell ((hg.block Wd H.out.lt (fun hh => by have := (H.out.own.lt Wd hh.symm).1; omega)).trans H.out.blk) 0).trans rfl; have g0 := blk_free ((hg.block Wd H.out.lt (fun hh => by have := (H.out.own.lt Wd hh.symm).1; omega)).trans H.out.blk) 0; dsimp at b0; obtain ⟨A', cp', e5⟩ := ho.slice; rw [List.length_append, size_data] at e5; subst e5; clear ho hg hat)
    go_end0
    rw [HF.out]
    exact ⟨rfl, _, HA.out.1, HA.out.2⟩
   ·subst hf
    have HSM := am (show st.out.length + s.size ≤ 16384 by omega)
    go_enter Tryz.func146, Tryz.ntmps146
    go_wp2_with (at_builtin; refine Own.str (B := Wd + 1) rfl (.tmp 31) (.tmp 32) 73 9 rfl Tryz.underlying73 Tryz.underlying9 info5 _ st.out s rfl rfl ?own2 (by have := HSM.out; omega) ?_; (case own2 => exact H.out.own); intro v1 w5 ho hg hat; have HA := am (H.out.app he ho hg hat); have b0 := (blk_cell ((hg.block Wd H.out.lt (fun hh => by have := (H.out.own.lt Wd hh.symm).1; omega)).trans H.out.blk) 0).trans rfl; have g0 := blk_free ((hg.block Wd H.out.lt (fun hh => by have := (H.out.own.lt Wd hh.symm).1; omega)).trans H.out.blk) 0; dsimp at b0; obtain ⟨A', cp', e5⟩ := ho.slice; rw [List.length_append, size_data] at e5; subst e5; clear ho hg hat)
    go_end0
    rw [HF.out]
    exact ⟨rfl, _, HA.out.1, HA.out.2⟩
 ·have HF := am (show putF free st s.data.toList = st by unfold putF; rw [if_pos he])
  have e0 : ((st.e : Int) != 0) = true := by
   have : ¬ (st.e : Int) = 0 := by omega
   simp only [bne_iff_ne, ne_eq]
   exact this
  clear h he
  go_enter Tryz.func146, Tryz.ntmps146
  go_wp2
  go_end0
  rw [HF.out]
  exact ⟨rfl, _, H.out, WrOn.refl _ _ _⟩
def hexD (n : Nat) : UInt8 := ([48, 49, 50, 51, 52, 53, 54, 55, 56, 57, 97, 98, 99, 100, 101, 102] : List UInt8).getD (n % 16) 48
def unitB (c : Nat) : List UInt8 := [92, 117, hexD (c / 4096), hexD (c / 256), hexD (c / 16), hexD c]
theorem val_step {P : Program} {ops : Array Oper} {rest : List Oper} {o : Oper} {a : Act} {Q : Exit → Act → World → Prop} {w : World} {v : Value} (hg : o.guard = none) (hrun : (execOp a.eval o).run P w = .ok (.value v) w) (h : wpList P ops Q rest (a.put o.dst v) w) : wpList P ops Q (o :: rest) a w := by
 refine wpList_plain hg fun K' hK' => ?_
 unfold Oper.wp
 rw [hrun]
 exact hK' _ _ h
theorem hex_index (d : Nat) (hd : d < 16) (w : World) : (Instr.index 9 (.string ⟨#[48, 49, 50, 51, 52, 53, 54, 55, 56, 57, 97, 98, 99, 100, 101, 102]⟩) (.int .i32 d)).run Tryz.prog w = .ok (.int .u8 (hexD d).toNat) w := by
 rcases (by omega : d = 0 ∨ d = 1 ∨ d = 2 ∨ d = 3 ∨ d = 4 ∨ d = 5 ∨ d = 6 ∨ d = 7 ∨ d = 8 ∨ d = 9 ∨ d = 10 ∨ d = 11 ∨ d = 12 ∨ d = 13 ∨ d = 14 ∨ d = 15) with rfl | rfl | rfl | rfl | rfl | rfl | rfl | rfl | rfl | rfl | rfl | rfl | rfl | rfl | rfl | rfl
 all_goals kernel_rfl
theorem hex_conv (d : Nat) (hd : d < 16) (w : World) : (convert 5 9 (.int .u8 (hexD d).toNat)).run Tryz.prog w = .ok (.string (bs [hexD d])) w := by
 rcases (by omega : d = 0 ∨ d = 1 ∨ d = 2 ∨ d = 3 ∨ d = 4 ∨ d = 5 ∨ d = 6 ∨ d = 7 ∨ d = 8 ∨ d = 9 ∨ d = 10 ∨ d = 11 ∨ d = 12 ∨ d = 13 ∨ d = 14 ∨ d = 15) with rfl | rfl | rfl | rfl | rfl | rfl | rfl | rfl | rfl | rfl | rfl | rfl | rfl | rfl | rfl | rfl
 all_goals kernel_rfl
theorem bs_append (a b : List UInt8) : bs a ++ bs b = bs (a ++ b) := by
 apply ByteArray.ext
 simp [bs]
theorem exec_index {P : Program} {f : Operand → Value} {o : Oper} {t : TypeId} {x i : Operand} {v : Value} {w : World} (ho : o.op = .index t x i) (h : (Instr.index t (f x) (f i)).run P w = .ok v w) : (execOp f o).run P w = .ok (.value v) w := by
 unfold execOp
 simp [ho, h]
theorem exec_convert {P : Program} {f : Operand → Value} {o : Oper} {t u : TypeId} {x : Operand} {v : Value} {w : World} (ho : o.op = .convert t u x) (h : (convert t u (f x)).run P w = .ok v w) : (execOp f o).run P w = .ok (.value v) w := by
 unfold execOp
 simp [ho, h]
theorem and15 (x : Nat) (h : x < 2147483648) : bits .and .i32 (x : Int) 15 = ((x % 16 : Nat) : Int) := by
 have := bits_mask .i32 31 (by decide) wraps_i32 4 (by decide) x (by omega) (by omega)
 have e : ((2 : Int) ^ 4 - 1) = 15 := by decide
 first
  | (rw [e] at this; rw [this]; omega)
  | (simpa using this)
theorem hexD_mod (n : Nat) : hexD (n % 16) = hexD n := by
 unfold hexD
 rw [Nat.mod_mod]
set_option maxRecDepth 1000000 in
set_option maxHeartbeats 1000000 in
theorem unit_calls (Wd : Nat) (free : Bool) (st : St) (sl : Value) (c : Nat) (hc : c ≤ 65535) (W : World) (hl : Room free st 6) (h : Wr Wd free st sl W) :
  Calls Tryz.prog 176 #[ptr Wd, .int .i32 c] W (WEnds Wd free sl W (putF free st (unitB c))) := by
 have H := am h
 have HC := am hc
 clear h
 go_enter Tryz.func176, Tryz.ntmps176
 go_wp2
 go_loopg [4, 5] 5 (fun g v4 v5 wr => wr = W ∧ ∃ l : List UInt8, v4 = .string (bs l) ∧ ((v5 = .int .i64 12 ∧ g = 5 ∧ Aside0 (l = [92, 117])) ∨ (v5 = .int .i64 8 ∧ g = 4 ∧ Aside0 (l = [92, 117, hexD (c / 4096)])) ∨ (v5 = .int .i64 4 ∧ g = 3 ∧ Aside0 (l = [92, 117, hexD (c / 4096), hexD (c / 256)])) ∨ (v5 = .int .i64 0 ∧ g = 2 ∧ Aside0 (l = [92, 117, hexD (c / 4096), hexD (c / 256), hexD (c / 16)])) ∨ (v5 = .int .i64 (-4) ∧ g = 1 ∧ Aside0 (l = unitB c))))
 case atStart => exact ⟨rfl, _, rfl, .inl ⟨rfl, rfl, ⟨rfl⟩⟩⟩
 case round =>
  obtain ⟨rfl, l, rfl, hrel⟩ := hrel
  rcases hrel with ⟨rfl, rfl, HL⟩ | ⟨rfl, rfl, HL⟩ | ⟨rfl, rfl, HL⟩ | ⟨rfl, rfl, HL⟩ | ⟨rfl, rfl, HL⟩
  ·have hm : c / 4096 % 16 < 16 := Nat.mod_lt _ (by omega)
   have fa : bits .and .i32 ((c : Int) / 4096) 15 = ((c / 4096 % 16 : Nat) : Int) := by
    have := and15 (c / 4096) (by have := HC.out; omega)
    rw [← this]
    first | done | rfl
   have HD := am (hexD_mod (c / 4096))
   generalize hdd : c / 4096 % 16 = d at *
   clear hdd
   have hz1 : (bs l).size ≤ 100 := by rw [bs_size, HL.out]; show _ ≤ 100; simp
   have hz2 : (bs [hexD d]).size = 1 := bs_size _
   go_wp2_with (first | ((with_reducible refine gate_dst (N := 15) rfl ?_); refine val_step rfl (exec_index rfl (hex_index d hm _)) ?_) | ((with_reducible refine gate_dst (N := 16) rfl ?_); refine val_step rfl (exec_convert rfl (hex_conv d hm _)) ?_))
   go_roundg 4
   case measure => omega
   case rel => exact ⟨rfl, l ++ [hexD d], congrArg Value.string (bs_append l [hexD d]), .inr (.inl ⟨rfl, rfl, ⟨by rw [HL.out, HD.out]; rfl⟩⟩)⟩
  ·have hm : c / 256 % 16 < 16 := Nat.mod_lt _ (by omega)
   have fa : bits .and .i32 ((c : Int) / 256) 15 = ((c / 256 % 16 : Nat) : Int) := by
    have := and15 (c / 256) (by have := HC.out; omega)
    rw [← this]
    first | done | rfl
   have HD := am (hexD_mod (c / 256))
   generalize hdd : c / 256 % 16 = d at *
   clear hdd
   have hz1 : (bs l).size ≤ 100 := by rw [bs_size, HL.out]; show _ ≤ 100; simp
   have hz2 : (bs [hexD d]).size = 1 := bs_size _
   go_wp2_with (first | ((with_reducible refine gate_dst (N := 15) rfl ?_); refine val_step rfl (exec_index rfl (hex_index d hm _)) ?_) | ((with_reducible refine gate_dst (N := 16) rfl ?_); refine val_step rfl (exec_convert rfl (hex_conv d hm _)) ?_))
   go_roundg 3
   case measure => omega
   case rel => exact ⟨rfl, l ++ [hexD d], congrArg Value.string (bs_append l [hexD d]), .inr (.inr (.inl ⟨rfl, rfl, ⟨by rw [HL.out, HD.out]; rfl⟩⟩))⟩
  ·have hm : c / 16 % 16 < 16 := Nat.mod_lt _ (by omega)
   have fa : bits .and .i32 ((c : Int) / 16) 15 = ((c / 16 % 16 : Nat) : Int) := by
    have := and15 (c / 16) (by have := HC.out; omega)
    rw [← this]
    first | done | rfl
   have HD := am (hexD_mod (c / 16))
   generalize hdd : c / 16 % 16 = d at *
   clear hdd
   have hz1 : (bs l).size ≤ 100 := by rw [bs_size, HL.out]; show _ ≤ 100; simp
   have hz2 : (bs [hexD d]).size = 1 := bs_size _
   go_wp2_with (first | ((with_reducible refine gate_dst (N := 15) rfl ?_); refine val_step rfl (exec_index rfl (hex_index d hm _)) ?_) | ((with_reducible refine gate_dst (N := 16) rfl ?_); refine val_step rfl (exec_convert rfl (hex_conv d hm _)) ?_))
   go_roundg 2
   case measure => omega
   case rel => exact ⟨rfl, l ++ [hexD d], congrArg Value.string (bs_append l [hexD d]), .inr (.inr (.inr (.inl ⟨rfl, rfl, ⟨by rw [HL.out, HD.out]; rfl⟩⟩)))⟩
  ·have hm : c % 16 < 16 := Nat.mod_lt _ (by omega)
   have fa : bits .and .i32 ((c : Int)) 15 = ((c % 16 : Nat) : Int) := by
    have := and15 (c) (by have := HC.out; omega)
    rw [← this]
    first | done | rfl
   have HD := am (hexD_mod (c))
   generalize hdd : c % 16 = d at *
   clear hdd
   have hz1 : (bs l).size ≤ 100 := by rw [bs_size, HL.out]; show _ ≤ 100; simp
   have hz2 : (bs [hexD d]).size = 1 := bs_size _
   go_wp2_with (first | ((with_reducible refine gate_dst (N := 15) rfl ?_); refine val_step rfl (exec_index rfl (hex_index d hm _)) ?_) | ((with_reducible refine gate_dst (N := 16) rfl ?_); refine val_step rfl (exec_convert rfl (hex_conv d hm _)) ?_))
   go_roundg 1
   case measure => omega
   case rel => exact ⟨rfl, l ++ [hexD d], congrArg Value.string (bs_append l [hexD d]), .inr (.inr (.inr (.inr ⟨rfl, rfl, ⟨by rw [HL.out, HD.out]; rfl⟩⟩)))⟩
  ·go_wp2_with (go_at_call 146; (with_reducible refine (put_calls Wd free st sl (bs l) _ ?hl ?wr).mono ?_); (case hl => rw [bs_size, HL.out]; exact hl); (case wr => exact H.out); rintro e w1 ⟨rfl, sl', hw, ho⟩; have HW := am hw; have HO := am ho; clear hw ho)
   go_end0
   have e := HW.out
   rw [data_bs, HL.out] at e
   exact ⟨rfl, sl', e, HO.out⟩
def setIt (W : World) (k : Nat) (o : Obj) : World := { W with heap := W.heap.setIfInBounds k o }
theorem setIt_same {W : World} {k : Nat} {o o' : Obj} (h : W.heap[k]? = some o) : (setIt W k o').heap[k]? = some o' := by
 have := lt_of_block h
 simp [setIt, this]
theorem setIt_other (W : World) (k b : Nat) (o : Obj) (h : b ≠ k) : (setIt W k o).heap[b]? = W.heap[b]? := by
 simp [setIt, Ne.symm h]
theorem setIt_size (W : World) (k : Nat) (o : Obj) : (setIt W k o).heap.size = W.heap.size := by simp [setIt]
theorem next_at {P : Program} (W : World) (k : Nat) (s : ByteArray) (pos : Nat) (hb : W.heap[k]? = some (.stringIter s pos)) (h : pos < s.size) (ty : TypeId) :
  (Instr.next (.pointer (some ⟨k, 0, none⟩)) true ty).run P W = .ok (.tuple #[.bool true, .int .i64 pos, .int .i32 (Utf8.decode s pos).1]) (setIt W k (.stringIter s (pos + (Utf8.decode s pos).2))) := by
 simp only [Instr.next, getObj, setObj, Sem.run_bind, Sem.run, hb, Result.andThen, h, if_true]
 simp [goInt, setIt]
theorem next_end {P : Program} (W : World) (k : Nat) (s : ByteArray) (pos : Nat) (hb : W.heap[k]? = some (.stringIter s pos)) (h : ¬ pos < s.size) (ty : TypeId) :
  (Instr.next (.pointer (some ⟨k, 0, none⟩)) true ty).run P W = .ok (.tuple #[.bool false]) W := by
 simp [Instr.next, getObj, Sem.run, hb, h]
theorem range_str {P : Program} (W : World) (t : TypeId) (s : ByteArray) (h : P.underlying t = some .string) : (Instr.range t (.string s)).run P W = .ok (.pointer (some ⟨W.heap.size, 0, none⟩)) (W.alloc (.stringIter s 0)) :=
 run_range_string W t s h
theorem dec_small (s : ByteArray) (pos : Nat) : (Utf8.decode s pos).1 ≤ 2097151 ∧ 1 ≤ (Utf8.decode s pos).2 := by
 have hb : ∀ k, (s.get! (pos + k)).toNat < 256 := fun k => (s.get! (pos + k)).toNat_lt
 have h0 := hb 0; have h1 := hb 1; have h2 := hb 2; have h3 := hb 3
 simp only [Utf8.decode]
 repeat' split
 all_goals simp_all [Utf8.runeError]
 all_goals omega
def runeB (c : Nat) : List (List UInt8) :=
 if c = 34 ∨ c = 92 then [[92, UInt8.ofNat c]] else if c = 8 then [[92, 98]] else if c = 9 then [[92, 116]] else if c = 10 then [[92, 110]] else if c = 12 then [[92, 102]] else if c = 13 then [[92, 114]]
 else if 32 ≤ c ∧ c ≤ 126 then [[UInt8.ofNat c]] else if 65535 < c then [unitB (55296 + (c - 65536) / 1024), unitB (56320 + (c - 65536) % 1024)] else [unitB c]
def quoteL (s : ByteArray) : Nat → Nat → List (List UInt8)
 | 0, _ => []
 | k + 1, pos => if pos < s.size then runeB (Utf8.decode s pos).1 ++ quoteL s k (pos + (Utf8.decode s pos).2) else []
def putsF (free : Bool) (st : St) (l : List (List UInt8)) : St := l.foldl (putF free) st
def quoteB (s : ByteArray) : List (List UInt8) := [34] :: (quoteL s (s.size + 1) 0 ++ [[34]])
theorem quoteL_end (s : ByteArray) (k pos : Nat) (h : ¬ pos < s.size) : quoteL s k pos = [] := by
 cases k with
 | zero => rfl
 | succ k => simp only [quoteL, if_neg h]
theorem quoteL_on (s : ByteArray) (k pos : Nat) (h : pos < s.size) : quoteL s (k + 1) pos = runeB (Utf8.decode s pos).1 ++ quoteL s k (pos + (Utf8.decode s pos).2) := by simp only [quoteL, if_pos h]
theorem enc_ascii (c : Nat) (h : c < 128) : Utf8.encode (c : Int) = bs [UInt8.ofNat c] := by
 have hv : Utf8.valid (c : Int) = true := by rw [validRune_eq]; unfold validRune; exact decide_eq_true (.inl ⟨by omega, by omega⟩)
 unfold Utf8.encode
 simp only [hv, if_true, Int.toNat_natCast]
 rw [if_pos (by omega)]
 rfl
theorem and1023 (x : Nat) (h : x < 2147483648) : bits .and .i32 (x : Int) 1023 = ((x % 1024 : Nat) : Int) := by
 have := bits_mask .i32 31 (by decide) wraps_i32 10 (by decide) x (by omega) (by omega)
 have e : ((2 : Int) ^ 10 - 1) = 1023 := by decide
 first
  | (rw [e] at this; rw [this]; omega)
  | (simpa using this)
theorem w32 (x : Int) (h0 : -2147483648 ≤ x) (h1 : x < 2147483648) : wrap32 x = x := by unfold wrap32; omega
theorem big_u (c : Nat) (h1 : 65535 < c) (h2 : c ≤ 2097151) : ∃ u : Nat, u ≤ 2031615 ∧ c - 65536 = u ∧ (c : Int) - 65536 = (u : Int) := ⟨c - 65536, by omega, by omega, by omega⟩
theorem big_n (u : Nat) (h : u ≤ 2031615) : ∃ n1 n2 u2 : Nat, n1 ≤ 65535 ∧ n2 ≤ 65535 ∧ 55296 + u / 1024 = n1 ∧ 56320 + u % 1024 = n2 ∧ bits .and .i32 (u : Int) 1023 = (u2 : Int) ∧ 55296 + (u : Int) / 1024 = (n1 : Int) ∧ 56320 + (u2 : Int) = (n2 : Int) :=
 ⟨55296 + u / 1024, 56320 + u % 1024, u % 1024, by omega, by omega, by omega, by omega, and1023 u (by omega), by omega, by omega⟩
theorem big_facts (c : Nat) (h1 : 65535 < c) (h2 : c ≤ 2097151) : ∃ u n1 n2 u2 : Nat, n1 ≤ 65535 ∧ n2 ≤ 65535 ∧ 55296 + (c - 65536) / 1024 = n1 ∧ 56320 + (c - 65536) % 1024 = n2 ∧ wrap32 ((c : Int) - 65536) = (u : Int) ∧ (c : Int) - 65536 = (u : Int) ∧ bits .and .i32 (u : Int) 1023 = (u2 : Int) ∧
  55296 + (u : Int) / 1024 = (n1 : Int) ∧ wrap32 (55296 + (u : Int) / 1024) = (n1 : Int) ∧ 56320 + (u2 : Int) = (n2 : Int) ∧ wrap32 (56320 + (u2 : Int)) = (n2 : Int) ∧ wrap32 (n1 : Int) = (n1 : Int) ∧ wrap32 (n2 : Int) = (n2 : Int) := by
 obtain ⟨u, hu, e1, e2⟩ := big_u c h1 h2
 obtain ⟨n1, n2, u2, g1, g2, e3, e4, e5, e6, e7⟩ := big_n u hu
 exact ⟨u, n1, n2, u2, g1, g2, by rw [e1]; exact e3, by rw [e1]; exact e4, by rw [e2]; exact w32 _ (by omega) (by omega), e2, e5, e6, by rw [e6]; exact w32 _ (by omega) (by omega), e7, by rw [e7]; exact w32 _ (by omega) (by omega), w32 _ (by omega) (by omega), w32 _ (by omega) (by omega)⟩
theorem Wr.it {Wd k : Nat} {free : Bool} {st : St} {sl : Value} {W : World} {s : ByteArray} {p : Nat} (o : Obj) (h : Wr Wd free st sl W) (hk : W.heap[k]? = some (.stringIter s p)) : Wr Wd free st sl (setIt W k o) := by
 have h1 : Wd ≠ k := by rintro rfl; rw [h.blk] at hk; cases hk
 refine ⟨(setIt_other _ _ _ _ h1).trans h.blk, h.own.heap (by rw [setIt_size]; exact Nat.le_refl _) fun g hg => setIt_other _ _ _ _ ?_⟩
 rintro rfl
 obtain ⟨cells, hc⟩ := own_typed h.own.1 _ hg
 rw [hk] at hc
 cases hc
theorem WrOn.it {Wd k : Nat} {sl sl' : Value} {W W' : World} (o : Obj) (h : WrOn Wd sl sl' W W') (hk : W.heap.size ≤ k) (hW : Wd ≤ W.heap.size) : WrOn Wd sl sl' W (setIt W' k o) := by
 refine ⟨⟨h.low.os, h.low.tape, h.low.output, by rw [setIt_size]; exact h.low.size, fun b hb => (setIt_other _ _ _ _ (by omega)).trans (h.low.block b hb)⟩, fun b hb h1 h2 => (setIt_other _ _ _ _ (by omega)).trans (h.kept b hb h1 h2), by rw [setIt_size]; exact h.size, h.at_⟩
theorem it_on {Wd k : Nat} {sl sl' : Value} {W W' : World} {free : Bool} {st : St} {s : ByteArray} {p : Nat} (hk : W.heap[k]? = some (.stringIter s p)) (hw : Wr Wd free st sl W) (h : WrOn Wd sl sl' W W') : W'.heap[k]? = some (.stringIter s p) := by
 refine (h.kept k (lt_of_block hk) ?_ ?_).trans hk
 ·rintro rfl; rw [hw.blk] at hk; cases hk
 ·intro hh
  obtain ⟨cells, hc⟩ := own_typed hw.own.1 k hh.symm
  rw [hk] at hc
  cases hc
theorem unitB_len (c : Nat) : (unitB c).length = 6 := rfl
set_option maxRecDepth 1000000 in
set_option maxHeartbeats 1000000 in
theorem quote_calls (Wd : Nat) (free : Bool) (st : St) (sl : Value) (s : ByteArray) (W : World) (hs : s.size ≤ 288230376151711743) (hl : Room free st (12 * s.size + 14)) (h : Wr Wd free st sl W) :
  Calls Tryz.prog 147 #[ptr Wd, .string s] W (WEnds Wd free sl W (putsF free st (quoteB s))) := by
 have H := am h
 have HRM := am (hl.less (show 1 + (12 * s.size + 13) ≤ 12 * s.size + 14 by omega))
 have HW := am h.lt
 have hrs := fun w => range_str (P := Tryz.prog) w 9 s Tryz.underlying9
 clear h hl
 go_enter Tryz.func147, Tryz.ntmps147
 go_wp2_with (go_at_call 146; (with_reducible refine (put_calls Wd free st sl ⟨#[34]⟩ _ ?rmp15 ?wrp15).mono ?_); (case rmp15 => exact HRM.out.less (show 1 ≤ _ by omega)); (case wrp15 => exact H.out); rintro e w1 ⟨rfl, sl1, hw_, ho_⟩; have HW1 := am hw_; have HO1 := am ho_; clear hw_ ho_)
 have HI1 := am (heap_alloc_new w1 (.stringIter s 0))
 have HW2 := am (HW1.out.below (below_alloc (Below.refl _ _) (.stringIter s 0)))
 have HO2 := am (HO1.out.trans (WrOn.of_below (Nat.le_of_lt HW1.out.lt) (below_alloc (Below.refl _ _) (.stringIter s 0))))
 have hle := HO1.out.size
 go_loopg [] (s.size + 1) (fun g wr => ∃ (pos : Nat) (st2 : St) (sl2 : Value), s.size + 1 ≤ pos + g ∧ Aside0 (wr.heap[w1.heap.size]? = some (.stringIter s pos)) ∧ Aside0 (Wr Wd free st2 sl2 wr) ∧ Aside0 (WrOn Wd sl sl2 W wr) ∧ Aside0 (Room free st2 (12 * (s.size - pos) + 13)) ∧ Aside0 (putsF free st2 (quoteL s g pos ++ [[34]]) = putsF free st (quoteB s)))
 case atStart => exact ⟨0, putF free st [34], sl1, by omega, HI1, HW2, HO2, ⟨HRM.out.put [34]⟩, ⟨rfl⟩⟩
 case round =>
  obtain ⟨pos, st2, sl2, hpg, HI, HW3, HO3, HR3, HX⟩ := hrel
  clear HI1 HW1 HW2 HO1 HO2
  by_cases hlt : pos < s.size
  ·cases gk with
   | zero => omega
   | succ g =>
    have HXr := am ((congrArg (fun l => putsF free st2 (l ++ [[34]])) (quoteL_on s g pos hlt)).symm.trans HX.out)
    obtain ⟨hc1, hc2⟩ := dec_small s pos
    have hnx := fun ty => next_at (P := Tryz.prog) wr w1.heap.size s pos HI.out hlt ty
    have HIn := am (setIt_same (o' := .stringIter s (pos + (Utf8.decode s pos).2)) HI.out)
    have HWn := am (HW3.out.it (.stringIter s (pos + (Utf8.decode s pos).2)) HI.out)
    have HOn := am (HO3.out.it (.stringIter s (pos + (Utf8.decode s pos).2)) hle (Nat.le_of_lt HW.out))
    have hp1 : s.size + 1 ≤ (pos + (Utf8.decode s pos).2) + g := by omega
    have HRn := am (HR3.out.less (show 12 + (12 * (s.size - (pos + (Utf8.decode s pos).2)) + 13) ≤ 12 * (s.size - pos) + 13 by omega))
    have hlt2 := hlt
    generalize hp2 : pos + (Utf8.decode s pos).2 = pos2 at *
    generalize (Utf8.decode s pos).1 = c at *
    generalize hwn : setIt wr w1.heap.size (.stringIter s pos2) = wn at *
    clear hp2 hwn hc2 HI HW3 HO3 HR3 HX
    by_cases h34 : c = 34
    ·have e34 : ((c : Int) == 34) = true := by simp only [beq_iff_eq]; omega
     have hrb : runeB c = [[92, UInt8.ofNat c]] := by unfold runeB; rw [if_pos (by omega)]
     have hcv := enc_ascii c (by omega)
     clear h34
     have hz1 : (bs [UInt8.ofNat c]).size = 1 := bs_size _
     have hz0 : ByteArray.size ⟨#[92]⟩ = 1 := rfl
     have HCC := am (show (⟨#[92]⟩ : ByteArray) ++ bs [UInt8.ofNat c] = bs [92, UInt8.ofNat c] from bs_append [92] [UInt8.ofNat c])
     have HXc := am (show putsF free (putF free st2 [92, UInt8.ofNat c]) (quoteL s g pos2 ++ [[34]]) = putsF free st (quoteB s) by have := HXr.out; rw [hrb] at this; exact this)
     clear hrb
     go_wp2_with ((go_at_call 146; (with_reducible refine (put_calls Wd free st2 sl2 (⟨#[92]⟩ ++ bs [UInt8.ofNat c]) _ ?rmp1 ?wrp1).mono ?_); (case rmp1 => exact (HRn.out.less (show [92, UInt8.ofNat c].length ≤ _ by simp only [List.length_cons, List.length_nil]; omega))); (case wrp1 => exact HWn.out); rintro e w5 ⟨rfl, sl5, hw_, ho_⟩; have HW5 := am hw_; have HO5 := am ho_; clear hw_ ho_))
     go_roundg g
     case measure => omega
     case rel => exact ⟨pos2, putF free st2 [92, UInt8.ofNat c], sl5, hp1, ⟨it_on HIn.out HWn.out HO5.out⟩, HW5, ⟨HOn.out.trans HO5.out⟩, ⟨Room.put [92, UInt8.ofNat c] (HRn.out.less (show [92, UInt8.ofNat c].length + (12 * (s.size - pos2) + 13) ≤ _ by simp only [List.length_cons, List.length_nil]; omega))⟩, HXc⟩
    have e34 : ((c : Int) == 34) = false := by simp only [beq_eq_false_iff_ne, ne_eq]; omega
    by_cases h92 : c = 92
    ·have e92 : ((c : Int) == 92) = true := by simp only [beq_iff_eq]; omega
     have hrb : runeB c = [[92, UInt8.ofNat c]] := by unfold runeB; rw [if_pos (by omega)]
     have hcv := enc_ascii c (by omega)
     clear h92
     have hz1 : (bs [UInt8.ofNat c]).size = 1 := bs_size _
     have hz0 : ByteArray.size ⟨#[92]⟩ = 1 := rfl
     have HCC := am (show (⟨#[92]⟩ : ByteArray) ++ bs [UInt8.ofNat c] = bs [92, UInt8.ofNat c] from bs_append [92] [UInt8.ofNat c])
     have HXc := am (show putsF free (putF free st2 [92, UInt8.ofNat c]) (quoteL s g pos2 ++ [[34]]) = putsF free st (quoteB s) by have := HXr.out; rw [hrb] at this; exact this)
     clear hrb
     go_wp2_with ((go_at_call 146; (with_reducible refine (put_calls Wd free st2 sl2 (⟨#[92]⟩ ++ bs [UInt8.ofNat c]) _ ?rmp2 ?wrp2).mono ?_); (case rmp2 => exact (HRn.out.less (show [92, UInt8.ofNat c].length ≤ _ by simp only [List.length_cons, List.length_nil]; omega))); (case wrp2 => exact HWn.out); rintro e w5 ⟨rfl, sl5, hw_, ho_⟩; have HW5 := am hw_; have HO5 := am ho_; clear hw_ ho_))
     go_roundg g
     case measure => omega
     case rel => exact ⟨pos2, putF free st2 [92, UInt8.ofNat c], sl5, hp1, ⟨it_on HIn.out HWn.out HO5.out⟩, HW5, ⟨HOn.out.trans HO5.out⟩, ⟨Room.put [92, UInt8.ofNat c] (HRn.out.less (show [92, UInt8.ofNat c].length + (12 * (s.size - pos2) + 13) ≤ _ by simp only [List.length_cons, List.length_nil]; omega))⟩, HXc⟩
    have e92 : ((c : Int) == 92) = false := by simp only [beq_eq_false_iff_ne, ne_eq]; omega
    by_cases h8 : c = 8
    ·have e8 : ((c : Int) == 8) = true := by simp only [beq_iff_eq]; omega
     have hrb : runeB c = [[92, 98]] := by unfold runeB; rw [if_neg (by omega)]; exact if_pos h8
     clear h8
     have HXc := am (show putsF free (putF free st2 [92, 98]) (quoteL s g pos2 ++ [[34]]) = putsF free st (quoteB s) by have := HXr.out; rw [hrb] at this; exact this)
     clear hrb
     go_wp2_with ((go_at_call 146; (with_reducible refine (put_calls Wd free st2 sl2 ⟨#[92, 98]⟩ _ ?rmp3 ?wrp3).mono ?_); (case rmp3 => exact (HRn.out.less (show [92, 98].length ≤ _ by simp only [List.length_cons, List.length_nil]; omega))); (case wrp3 => exact HWn.out); rintro e w5 ⟨rfl, sl5, hw_, ho_⟩; have HW5 := am hw_; have HO5 := am ho_; clear hw_ ho_))
     go_roundg g
     case measure => omega
     case rel => exact ⟨pos2, putF free st2 [92, 98], sl5, hp1, ⟨it_on HIn.out HWn.out HO5.out⟩, HW5, ⟨HOn.out.trans HO5.out⟩, ⟨Room.put [92, 98] (HRn.out.less (show [92, 98].length + (12 * (s.size - pos2) + 13) ≤ _ by simp only [List.length_cons, List.length_nil]; omega))⟩, HXc⟩
    have e8 : ((c : Int) == 8) = false := by simp only [beq_eq_false_iff_ne, ne_eq]; omega
    by_cases h9 : c = 9
    ·have e9 : ((c : Int) == 9) = true := by simp only [beq_iff_eq]; omega
     have hrb : runeB c = [[92, 116]] := by unfold runeB; rw [if_neg (by omega), if_neg h8]; exact if_pos h9
     clear h9
     have HXc := am (show putsF free (putF free st2 [92, 116]) (quoteL s g pos2 ++ [[34]]) = putsF free st (quoteB s) by have := HXr.out; rw [hrb] at this; exact this)
     clear hrb
     go_wp2_with ((go_at_call 146; (with_reducible refine (put_calls Wd free st2 sl2 ⟨#[92, 116]⟩ _ ?rmp4 ?wrp4).mono ?_); (case rmp4 => exact (HRn.out.less (show [92, 116].length ≤ _ by simp only [List.length_cons, List.length_nil]; omega))); (case wrp4 => exact HWn.out); rintro e w5 ⟨rfl, sl5, hw_, ho_⟩; have HW5 := am hw_; have HO5 := am ho_; clear hw_ ho_))
     go_roundg g
     case measure => omega
     case rel => exact ⟨pos2, putF free st2 [92, 116], sl5, hp1, ⟨it_on HIn.out HWn.out HO5.out⟩, HW5, ⟨HOn.out.trans HO5.out⟩, ⟨Room.put [92, 116] (HRn.out.less (show [92, 116].length + (12 * (s.size - pos2) + 13) ≤ _ by simp only [List.length_cons, List.length_nil]; omega))⟩, HXc⟩
    have e9 : ((c : Int) == 9) = false := by simp only [beq_eq_false_iff_ne, ne_eq]; omega
    by_cases h10 : c = 10
    ·have e10 : ((c : Int) == 10) = true := by simp only [beq_iff_eq]; omega
     have hrb : runeB c = [[92, 110]] := by unfold runeB; rw [if_neg (by omega), if_neg h8, if_neg h9]; exact if_pos h10
     clear h10
     have HXc := am (show putsF free (putF free st2 [92, 110]) (quoteL s g pos2 ++ [[34]]) = putsF free st (quoteB s) by have := HXr.out; rw [hrb] at this; exact this)
     clear hrb
     go_wp2_with ((go_at_call 146; (with_reducible refine (put_calls Wd free st2 sl2 ⟨#[92, 110]⟩ _ ?rmp5 ?wrp5).mono ?_); (case rmp5 => exact (HRn.out.less (show [92, 110].length ≤ _ by simp only [List.length_cons, List.length_nil]; omega))); (case wrp5 => exact HWn.out); rintro e w5 ⟨rfl, sl5, hw_, ho_⟩; have HW5 := am hw_; have HO5 := am ho_; clear hw_ ho_))
     go_roundg g
     case measure => omega
     case rel => exact ⟨pos2, putF free st2 [92, 110], sl5, hp1, ⟨it_on HIn.out HWn.out HO5.out⟩, HW5, ⟨HOn.out.trans HO5.out⟩, ⟨Room.put [92, 110] (HRn.out.less (show [92, 110].length + (12 * (s.size - pos2) + 13) ≤ _ by simp only [List.length_cons, List.length_nil]; omega))⟩, HXc⟩
    have e10 : ((c : Int) == 10) = false := by simp only [beq_eq_false_iff_ne, ne_eq]; omega
    by_cases h12 : c = 12
    ·have e12 : ((c : Int) == 12) = true := by simp only [beq_iff_eq]; omega
     have hrb : runeB c = [[92, 102]] := by unfold runeB; rw [if_neg (by omega), if_neg h8, if_neg h9, if_neg h10]; exact if_pos h12
     clear h12
     have HXc := am (show putsF free (putF free st2 [92, 102]) (quoteL s g pos2 ++ [[34]]) = putsF free st (quoteB s) by have := HXr.out; rw [hrb] at this; exact this)
     clear hrb
     go_wp2_with ((go_at_call 146; (with_reducible refine (put_calls Wd free st2 sl2 ⟨#[92, 102]⟩ _ ?rmp6 ?wrp6).mono ?_); (case rmp6 => exact (HRn.out.less (show [92, 102].length ≤ _ by simp only [List.length_cons, List.length_nil]; omega))); (case wrp6 => exact HWn.out); rintro e w5 ⟨rfl, sl5, hw_, ho_⟩; have HW5 := am hw_; have HO5 := am ho_; clear hw_ ho_))
     go_roundg g
     case measure => omega
     case rel => exact ⟨pos2, putF free st2 [92, 102], sl5, hp1, ⟨it_on HIn.out HWn.out HO5.out⟩, HW5, ⟨HOn.out.trans HO5.out⟩, ⟨Room.put [92, 102] (HRn.out.less (show [92, 102].length + (12 * (s.size - pos2) + 13) ≤ _ by simp only [List.length_cons, List.length_nil]; omega))⟩, HXc⟩
    have e12 : ((c : Int) == 12) = false := by simp only [beq_eq_false_iff_ne, ne_eq]; omega
    by_cases h13 : c = 13
    ·have e13 : ((c : Int) == 13) = true := by simp only [beq_iff_eq]; omega
     have hrb : runeB c = [[92, 114]] := by unfold runeB; rw [if_neg (by omega), if_neg h8, if_neg h9, if_neg h10, if_neg h12]; exact if_pos h13
     clear h13
     have HXc := am (show putsF free (putF free st2 [92, 114]) (quoteL s g pos2 ++ [[34]]) = putsF free st (quoteB s) by have := HXr.out; rw [hrb] at this; exact this)
     clear hrb
     go_wp2_with ((go_at_call 146; (with_reducible refine (put_calls Wd free st2 sl2 ⟨#[92, 114]⟩ _ ?rmp7 ?wrp7).mono ?_); (case rmp7 => exact (HRn.out.less (show [92, 114].length ≤ _ by simp only [List.length_cons, List.length_nil]; omega))); (case wrp7 => exact HWn.out); rintro e w5 ⟨rfl, sl5, hw_, ho_⟩; have HW5 := am hw_; have HO5 := am ho_; clear hw_ ho_))
     go_roundg g
     case measure => omega
     case rel => exact ⟨pos2, putF free st2 [92, 114], sl5, hp1, ⟨it_on HIn.out HWn.out HO5.out⟩, HW5, ⟨HOn.out.trans HO5.out⟩, ⟨Room.put [92, 114] (HRn.out.less (show [92, 114].length + (12 * (s.size - pos2) + 13) ≤ _ by simp only [List.length_cons, List.length_nil]; omega))⟩, HXc⟩
    have e13 : ((c : Int) == 13) = false := by simp only [beq_eq_false_iff_ne, ne_eq]; omega
    by_cases hpr : 32 ≤ c ∧ c ≤ 126
    ·have hrb : runeB c = [[UInt8.ofNat c]] := by unfold runeB; rw [if_neg (by omega), if_neg h8, if_neg h9, if_neg h10, if_neg h12, if_neg h13, if_pos hpr]
     have a1 : (32 : Int) ≤ (c : Int) := by omega
     have a2 : (c : Int) ≤ 126 := by omega
     have hcv := enc_ascii c (by omega)
     have HXc := am (show putsF free (putF free st2 [UInt8.ofNat c]) (quoteL s g pos2 ++ [[34]]) = putsF free st (quoteB s) by have := HXr.out; rw [hrb] at this; exact this)
     clear hrb
     go_wp2_with ((go_at_call 146; (with_reducible refine (put_calls Wd free st2 sl2 (bs [UInt8.ofNat c]) _ ?rmp8 ?wrp8).mono ?_); (case rmp8 => exact (HRn.out.less (show [UInt8.ofNat c].length ≤ _ by simp only [List.length_cons, List.length_nil]; omega))); (case wrp8 => exact HWn.out); rintro e w5 ⟨rfl, sl5, hw_, ho_⟩; have HW5 := am hw_; have HO5 := am ho_; clear hw_ ho_))
     go_roundg g
     case measure => omega
     case rel => exact ⟨pos2, putF free st2 [UInt8.ofNat c], sl5, hp1, ⟨it_on HIn.out HWn.out HO5.out⟩, HW5, ⟨HOn.out.trans HO5.out⟩, ⟨Room.put [UInt8.ofNat c] (HRn.out.less (show [UInt8.ofNat c].length + (12 * (s.size - pos2) + 13) ≤ _ by simp only [List.length_cons, List.length_nil]; omega))⟩, HXc⟩
    by_cases hlo : 32 ≤ c
    ·have a1 : (32 : Int) ≤ (c : Int) := by omega
     have a2 : ¬ (c : Int) ≤ 126 := by omega
     have a3 : decide ((c : Int) ≤ 126) = false := decide_eq_false a2
     by_cases hbig : 65535 < c
     ·have hrb : runeB c = [unitB (55296 + (c - 65536) / 1024), unitB (56320 + (c - 65536) % 1024)] := by unfold runeB; rw [if_neg (by omega), if_neg h8, if_neg h9, if_neg h10, if_neg h12, if_neg h13, if_neg hpr, if_pos hbig]
      have b1 : (65535 : Int) < (c : Int) := by omega
      obtain ⟨u, n1, n2, u2, hn1', hn2', k1, k2, hsub, hsub2, hm, hA1, hA2, hA3, hA4, hA5, hA6⟩ := big_facts c hbig hc1
      rw [k1, k2] at hrb
      have HN1 := am hn1'
      have HN2 := am hn2'
      have HXc := am (show putsF free (putF free (putF free st2 (unitB n1)) (unitB n2)) (quoteL s g pos2 ++ [[34]]) = putsF free st (quoteB s) by have := HXr.out; rw [hrb] at this; exact this)
      clear hrb hpr k1 k2 hn1' hn2'
      have HRu := am (HRn.out.less (show (unitB n1).length + ((unitB n2).length + (12 * (s.size - pos2) + 13)) ≤ _ by rw [unitB_len, unitB_len]; omega))
      go_wp2_with (first | (go_at_call 176; (with_reducible refine (unit_calls Wd free st2 sl2 n1 HN1.out _ ?rmp9 ?wrp9).mono ?_); (case rmp9 => exact (HRu.out.less (by rw [unitB_len]; omega))); (case wrp9 => exact HWn.out); rintro e w5 ⟨rfl, sl5, hw_, ho_⟩; have HW5 := am hw_; have HO5 := am ho_; clear hw_ ho_) | (go_at_call 176; (with_reducible refine (unit_calls Wd free (putF free st2 (unitB n1)) sl5 n2 HN2.out _ ?rmp10 ?wrp10).mono ?_); (case rmp10 => exact ((HRu.out.put _).less (by rw [unitB_len]; omega))); (case wrp10 => exact HW5.out); rintro e w6 ⟨rfl, sl6, hw_, ho_⟩; have HW6 := am hw_; have HO6 := am ho_; clear hw_ ho_))
      go_roundg g
      case measure => omega
      case rel => exact ⟨pos2, _, sl6, hp1, ⟨it_on HIn.out HWn.out (HO5.out.trans HO6.out)⟩, HW6, ⟨HOn.out.trans (HO5.out.trans HO6.out)⟩, ⟨(HRu.out.put _).put _⟩, HXc⟩
     ·have hrb : runeB c = [unitB c] := by unfold runeB; rw [if_neg (by omega), if_neg h8, if_neg h9, if_neg h10, if_neg h12, if_neg h13, if_neg hpr, if_neg hbig]
      have HXc := am (show putsF free (putF free st2 (unitB c)) (quoteL s g pos2 ++ [[34]]) = putsF free st (quoteB s) by have := HXr.out; rw [hrb] at this; exact this)
      clear hrb hpr
      have b1 : ¬ (65535 : Int) < (c : Int) := by omega
      have b2 : decide ((65535 : Int) < (c : Int)) = false := decide_eq_false b1
      have HRu := am (HRn.out.less (show (unitB c).length + (12 * (s.size - pos2) + 13) ≤ _ by rw [unitB_len]; omega))
      go_wp2_with (go_at_call 176; (with_reducible refine (unit_calls Wd free st2 sl2 c (by omega) _ ?rmq11 ?wrq11).mono ?_); (case rmq11 => exact HRu.out.less (by rw [unitB_len]; omega)); (case wrq11 => exact HWn.out); rintro e w5 ⟨rfl, sl5, hw_, ho_⟩; have HW5 := am hw_; have HO5 := am ho_; clear hw_ ho_)
      go_roundg g
      case measure => omega
      case rel => exact ⟨pos2, _, sl5, hp1, ⟨it_on HIn.out HWn.out HO5.out⟩, HW5, ⟨HOn.out.trans HO5.out⟩, ⟨HRu.out.put _⟩, HXc⟩
    ·have a1 : ¬ (32 : Int) ≤ (c : Int) := by omega
     have a3 : decide ((32 : Int) ≤ (c : Int)) = false := decide_eq_false a1
     by_cases hbig : 65535 < c
     ·have hrb : runeB c = [unitB (55296 + (c - 65536) / 1024), unitB (56320 + (c - 65536) % 1024)] := by unfold runeB; rw [if_neg (by omega), if_neg h8, if_neg h9, if_neg h10, if_neg h12, if_neg h13, if_neg hpr, if_pos hbig]
      have b1 : (65535 : Int) < (c : Int) := by omega
      obtain ⟨u, n1, n2, u2, hn1', hn2', k1, k2, hsub, hsub2, hm, hA1, hA2, hA3, hA4, hA5, hA6⟩ := big_facts c hbig hc1
      rw [k1, k2] at hrb
      have HN1 := am hn1'
      have HN2 := am hn2'
      have HXc := am (show putsF free (putF free (putF free st2 (unitB n1)) (unitB n2)) (quoteL s g pos2 ++ [[34]]) = putsF free st (quoteB s) by have := HXr.out; rw [hrb] at this; exact this)
      clear hrb hpr k1 k2 hn1' hn2'
      have HRu := am (HRn.out.less (show (unitB n1).length + ((unitB n2).length + (12 * (s.size - pos2) + 13)) ≤ _ by rw [unitB_len, unitB_len]; omega))
      go_wp2_with (first | (go_at_call 176; (with_reducible refine (unit_calls Wd free st2 sl2 n1 HN1.out _ ?rmp12 ?wrp12).mono ?_); (case rmp12 => exact (HRu.out.less (by rw [unitB_len]; omega))); (case wrp12 => exact HWn.out); rintro e w5 ⟨rfl, sl5, hw_, ho_⟩; have HW5 := am hw_; have HO5 := am ho_; clear hw_ ho_) | (go_at_call 176; (with_reducible refine (unit_calls Wd free (putF free st2 (unitB n1)) sl5 n2 HN2.out _ ?rmp13 ?wrp13).mono ?_); (case rmp13 => exact ((HRu.out.put _).less (by rw [unitB_len]; omega))); (case wrp13 => exact HW5.out); rintro e w6 ⟨rfl, sl6, hw_, ho_⟩; have HW6 := am hw_; have HO6 := am ho_; clear hw_ ho_))
      go_roundg g
      case measure => omega
      case rel => exact ⟨pos2, _, sl6, hp1, ⟨it_on HIn.out HWn.out (HO5.out.trans HO6.out)⟩, HW6, ⟨HOn.out.trans (HO5.out.trans HO6.out)⟩, ⟨(HRu.out.put _).put _⟩, HXc⟩
     ·have hrb : runeB c = [unitB c] := by unfold runeB; rw [if_neg (by omega), if_neg h8, if_neg h9, if_neg h10, if_neg h12, if_neg h13, if_neg hpr, if_neg hbig]
      have HXc := am (show putsF free (putF free st2 (unitB c)) (quoteL s g pos2 ++ [[34]]) = putsF free st (quoteB s) by have := HXr.out; rw [hrb] at this; exact this)
      clear hrb hpr
      have b1 : ¬ (65535 : Int) < (c : Int) := by omega
      have b2 : decide ((65535 : Int) < (c : Int)) = false := decide_eq_false b1
      have HRu := am (HRn.out.less (show (unitB c).length + (12 * (s.size - pos2) + 13) ≤ _ by rw [unitB_len]; omega))
      go_wp2_with (go_at_call 176; (with_reducible refine (unit_calls Wd free st2 sl2 c (by omega) _ ?rmq14 ?wrq14).mono ?_); (case rmq14 => exact HRu.out.less (by rw [unitB_len]; omega)); (case wrq14 => exact HWn.out); rintro e w5 ⟨rfl, sl5, hw_, ho_⟩; have HW5 := am hw_; have HO5 := am ho_; clear hw_ ho_)
      go_roundg g
      case measure => omega
      case rel => exact ⟨pos2, _, sl5, hp1, ⟨it_on HIn.out HWn.out HO5.out⟩, HW5, ⟨HOn.out.trans HO5.out⟩, ⟨HRu.out.put _⟩, HXc⟩
  ·have HXe := am ((congrArg (fun l => putsF free st2 (l ++ [[34]])) (quoteL_end s gk pos hlt)).symm.trans HX.out)
   have hnx := fun ty => next_end (P := Tryz.prog) wr w1.heap.size s pos HI.out hlt ty
   go_wp2_with (go_at_call 146; (with_reducible refine (put_calls Wd free st2 sl2 ⟨#[34]⟩ _ ?rmp16 ?wrp16).mono ?_); (case rmp16 => exact HR3.out.less (show 1 ≤ _ by omega)); (case wrp16 => exact HW3.out); rintro e w5 ⟨rfl, sl5, hw_, ho_⟩; have HW5 := am hw_; have HO5 := am ho_; clear hw_ ho_)
   go_end0
   exact ⟨rfl, sl5, by rw [← HXe.out]; exact HW5.out, HO3.out.trans HO5.out⟩
end Go.Proofs.YtpdelcbkcebkpaaGreatDoor.X
namespace Go.Proofs
open Go.Shelf Go.RowKit
def Tryz.lays196_ren : Go.Shelf.Ren := ⟨fun | 196 => 116 | 259 => 160 | n => n, fun | 0 => 0 | 3 => 3 | 4 => 4 | 5 => 5 | 9 => 9 | 12 => 12 | 46 => 140 | 53 => 39 | 119 => 227 | 138 => 229 | 139 => 230 | n => n, fun | 3 => 2 | 4 => 3 | n => n⟩
theorem Tryz.lays196 : Go.Proofs.Lays.n196 Tryz.prog Tryz.lays196_ren := {
 mixed := by kernel_rfl
 f196 := Tryz.func116.trans (congrArg some (by kernel_rfl))
 f259 := Tryz.func160.trans (congrArg some (by kernel_rfl))
 t0 := Tryz.underlying0
 a0 := Tryz.isAgg0
 z0 := Tryz.sizeOf0
 v0 := Tryz.zeroValue0
 t3 := Tryz.underlying3
 a3 := Tryz.isAgg3
 z3 := Tryz.sizeOf3
 v3 := Tryz.zeroValue3
 t4 := Tryz.underlying4
 a4 := Tryz.isAgg4
 z4 := Tryz.sizeOf4
 v4 := Tryz.zeroValue4
 t5 := Tryz.underlying5
 a5 := Tryz.isAgg5
 z5 := Tryz.sizeOf5
 v5 := Tryz.zeroValue5
 t9 := Tryz.underlying9
 a9 := Tryz.isAgg9
 z9 := Tryz.sizeOf9
 v9 := Tryz.zeroValue9
 t12 := Tryz.underlying12
 a12 := Tryz.isAgg12
 z12 := Tryz.sizeOf12
 v12 := Tryz.zeroValue12
 t46 := Tryz.underlying140
 a46 := Tryz.isAgg140
 z46 := Tryz.sizeOf140
 v46 := Tryz.zeroValue140
 t53 := Tryz.underlying39
 a53 := Tryz.isAgg39
 z53 := Tryz.sizeOf39
 v53 := Tryz.zeroValue39
 t119 := Tryz.underlying227
 a119 := Tryz.isAgg227
 z119 := Tryz.sizeOf227
 t138 := Tryz.underlying229
 a138 := Tryz.isAgg229
 z138 := Tryz.sizeOf229
 v138 := Tryz.zeroValue229
 t139 := Tryz.underlying230
 a139 := Tryz.isAgg230
 z139 := Tryz.sizeOf230
 v139 := Tryz.zeroValue230
 g3 := by kernel_rfl
 g4 := by kernel_rfl }
end Go.Proofs
namespace Go.Proofs.YtpdelcbkcebkpaaGreatDoor.X
open Go.RowKit Go.Lib Go.Proofs.YtpdelcbkcebkpaaGreatDoorW.PrintWords Go.Proofs.YtpdelcbkcebkpaaGreatDoorW.PrintLast Go.Proofs.YtpdelcbkcebkpaaGreatDoorW.PrintMore
def wordB (i : Nat) : ByteArray := if i = 0 then ⟨#[110, 117, 108, 108]⟩ else if i = 1 then ⟨#[102, 97, 108, 115, 101]⟩ else ⟨#[116, 114, 117, 101]⟩
structure GLw (W : World) : Prop where
 w0 : W.cell? ⟨5, 0, none⟩ = some (.string (wordB 0))
 w1 : W.cell? ⟨5, 1, none⟩ = some (.string (wordB 1))
 w2 : W.cell? ⟨5, 2, none⟩ = some (.string (wordB 2))
theorem GLw.below {W W' : World} (h : GLw W) (hb : Below W.heap.size W W') : GLw W' := by
 have key : ∀ (a : Addr) (v : Value), W.cell? a = some v → W'.cell? a = some v := fun a v h => (hb.cell (World.block_lt_of_cell? W _ h)).trans h
 exact ⟨key _ _ h.w0, key _ _ h.w1, key _ _ h.w2⟩
def nodeOK (f0 : Int) (f1 : ByteArray) (n2 n3 : Nat) : Bool :=
 if f0 = 0 ∨ f0 = 1 ∨ f0 = 2 then decide (f1.size = 0 ∧ n2 = 0 ∧ n3 = 0)
 else if f0 = 3 then decide ((litF f1.data.toList).2 = true ∧ (litF f1.data.toList).1 = f1.size ∧ n2 = 0 ∧ n3 = 0)
 else if f0 = 4 then decide (validD f1.data.toList = true ∧ n2 = 0 ∧ n3 = 0)
 else if f0 = 5 then decide (f1.size = 0 ∧ n2 = 0)
 else if f0 = 6 then decide (f1.size = 0 ∧ n2 = n3)
 else false
theorem str_ne (b : ByteArray) (h : ¬ b.size = 0) : (b.toList == (⟨#[]⟩ : ByteArray).toList) = false ∧ (b.toList == []) = false := by
 have h1 : b.toList ≠ [] := by
  rw [toList_data]
  intro hh
  apply h
  rw [← size_data, hh]
  rfl
 have e : (⟨#[]⟩ : ByteArray).toList = [] := by rw [toList_data]
 rw [e]
 simp [h1]
theorem str_empty (b : ByteArray) (h : b.size = 0) : b = ⟨#[]⟩ := by
 apply ByteArray.ext
 exact Array.eq_empty_of_size_eq_zero h
theorem beq_nat0 (n : Nat) : ((n : Int) == 0) = decide (n = 0) := by
 by_cases h : n = 0
 ·simp [h]
 ·have : ¬ (n : Int) = 0 := by omega
  simp [h]
theorem beq_nn (n m : Nat) : ((n : Int) == (m : Int)) = decide (n = m) := by
 by_cases h : n = m
 ·simp [h]
 ·have : ¬ (n : Int) = (m : Int) := by omega
  simp [h, this]
abbrev jVal (f0 : Int) (f1 : ByteArray) (A2 A3 : Option Addr) (n2 c2 n3 c3 : Nat) : Value := .agg #[.int .i64 f0, .string f1, .slice A2 n2 c2, .slice A3 n3 c3]
set_option maxRecDepth 1000000 in
set_option maxHeartbeats 1000000 in
theorem node0 (f1 : ByteArray) (A2 A3 : Option Addr) (n2 c2 n3 c3 : Nat) (W : World) (hG : GLw W) :
  Calls Tryz.prog 145 #[jVal 0 f1 A2 A3 n2 c2 n3 c3] W fun x W' => x = .returned (.tuple #[.iface 207 (.agg #[.string (wordB 0)]), .bool (nodeOK 0 f1 n2 n3)]) ∧ Below W.heap.size W W' := by
 have g := hG.w0
 have g' : ∀ o : Obj, (W.alloc o).cell? ⟨5, 0, none⟩ = some (.string (wordB 0)) := fun o => (hG.below (below_alloc (Below.refl _ _) o)).w0
 clear hG
 by_cases h1 : f1.size = 0
 ·have e1 := str_empty f1 h1
  subst e1
  by_cases h2 : n2 = 0
  ·subst h2
   by_cases h3 : n3 = 0
   ·subst h3
    have HX := am (show nodeOK 0 ⟨#[]⟩ 0 0 = true by unfold nodeOK; rfl)
    go_enter Tryz.func145, Tryz.ntmps145
    go_wp2
    go_quiet (fail)
    go_wp2
    go_ret2
    rw [HX.out]
    exact ⟨rfl, by repeat (first | exact Below.refl _ _ | apply below_drewN | apply below_drew1 | apply below_alloc)⟩
   ·have e3 := (beq_nat0 n3).trans (decide_eq_false h3)
    have HX := am (show nodeOK 0 ⟨#[]⟩ 0 n3 = false by unfold nodeOK; simp [h3])
    go_enter Tryz.func145, Tryz.ntmps145
    go_wp2
    go_quiet (fail)
    go_wp2
    go_ret2
    rw [HX.out]
    exact ⟨rfl, by repeat (first | exact Below.refl _ _ | apply below_drewN | apply below_drew1 | apply below_alloc)⟩
  ·have e2 := (beq_nat0 n2).trans (decide_eq_false h2)
   have HX := am (show nodeOK 0 ⟨#[]⟩ n2 n3 = false by unfold nodeOK; simp [h2])
   go_enter Tryz.func145, Tryz.ntmps145
   go_wp2
   go_quiet (fail)
   go_wp2
   go_ret2
   rw [HX.out]
   exact ⟨rfl, by repeat (first | exact Below.refl _ _ | apply below_drewN | apply below_drew1 | apply below_alloc)⟩
 ·obtain ⟨e1, e1'⟩ := str_ne f1 h1
  have HX := am (show nodeOK 0 f1 n2 n3 = false by unfold nodeOK; simp [h1])
  go_enter Tryz.func145, Tryz.ntmps145
  go_wp2
  go_quiet (fail)
  go_wp2
  go_ret2
  rw [HX.out]
  exact ⟨rfl, by repeat (first | exact Below.refl _ _ | apply below_drewN | apply below_drew1 | apply below_alloc)⟩
set_option maxRecDepth 1000000 in
set_option maxHeartbeats 1000000 in
theorem node1 (f1 : ByteArray) (A2 A3 : Option Addr) (n2 c2 n3 c3 : Nat) (W : World) (hG : GLw W) :
  Calls Tryz.prog 145 #[jVal 1 f1 A2 A3 n2 c2 n3 c3] W fun x W' => x = .returned (.tuple #[.iface 207 (.agg #[.string (wordB 1)]), .bool (nodeOK 1 f1 n2 n3)]) ∧ Below W.heap.size W W' := by
 have g := hG.w1
 have g' : ∀ o : Obj, (W.alloc o).cell? ⟨5, 1, none⟩ = some (.string (wordB 1)) := fun o => (hG.below (below_alloc (Below.refl _ _) o)).w1
 clear hG
 by_cases h1 : f1.size = 0
 ·have e1 := str_empty f1 h1
  subst e1
  by_cases h2 : n2 = 0
  ·subst h2
   by_cases h3 : n3 = 0
   ·subst h3
    have HX := am (show nodeOK 1 ⟨#[]⟩ 0 0 = true by unfold nodeOK; rfl)
    go_enter Tryz.func145, Tryz.ntmps145
    go_wp2
    go_quiet (fail)
    go_wp2
    go_ret2
    rw [HX.out]
    exact ⟨rfl, by repeat (first | exact Below.refl _ _ | apply below_drewN | apply below_drew1 | apply below_alloc)⟩
   ·have e3 := (beq_nat0 n3).trans (decide_eq_false h3)
    have HX := am (show nodeOK 1 ⟨#[]⟩ 0 n3 = false by unfold nodeOK; simp [h3])
    go_enter Tryz.func145, Tryz.ntmps145
    go_wp2
    go_quiet (fail)
    go_wp2
    go_ret2
    rw [HX.out]
    exact ⟨rfl, by repeat (first | exact Below.refl _ _ | apply below_drewN | apply below_drew1 | apply below_alloc)⟩
  ·have e2 := (beq_nat0 n2).trans (decide_eq_false h2)
   have HX := am (show nodeOK 1 ⟨#[]⟩ n2 n3 = false by unfold nodeOK; simp [h2])
   go_enter Tryz.func145, Tryz.ntmps145
   go_wp2
   go_quiet (fail)
   go_wp2
   go_ret2
   rw [HX.out]
   exact ⟨rfl, by repeat (first | exact Below.refl _ _ | apply below_drewN | apply below_drew1 | apply below_alloc)⟩
 ·obtain ⟨e1, e1'⟩ := str_ne f1 h1
  have HX := am (show nodeOK 1 f1 n2 n3 = false by unfold nodeOK; simp [h1])
  go_enter Tryz.func145, Tryz.ntmps145
  go_wp2
  go_quiet (fail)
  go_wp2
  go_ret2
  rw [HX.out]
  exact ⟨rfl, by repeat (first | exact Below.refl _ _ | apply below_drewN | apply below_drew1 | apply below_alloc)⟩
set_option maxRecDepth 1000000 in
set_option maxHeartbeats 1000000 in
theorem node2 (f1 : ByteArray) (A2 A3 : Option Addr) (n2 c2 n3 c3 : Nat) (W : World) (hG : GLw W) :
  Calls Tryz.prog 145 #[jVal 2 f1 A2 A3 n2 c2 n3 c3] W fun x W' => x = .returned (.tuple #[.iface 207 (.agg #[.string (wordB 2)]), .bool (nodeOK 2 f1 n2 n3)]) ∧ Below W.heap.size W W' := by
 have g := hG.w2
 have g' : ∀ o : Obj, (W.alloc o).cell? ⟨5, 2, none⟩ = some (.string (wordB 2)) := fun o => (hG.below (below_alloc (Below.refl _ _) o)).w2
 clear hG
 by_cases h1 : f1.size = 0
 ·have e1 := str_empty f1 h1
  subst e1
  by_cases h2 : n2 = 0
  ·subst h2
   by_cases h3 : n3 = 0
   ·subst h3
    have HX := am (show nodeOK 2 ⟨#[]⟩ 0 0 = true by unfold nodeOK; rfl)
    go_enter Tryz.func145, Tryz.ntmps145
    go_wp2
    go_quiet (fail)
    go_wp2
    go_ret2
    rw [HX.out]
    exact ⟨rfl, by repeat (first | exact Below.refl _ _ | apply below_drewN | apply below_drew1 | apply below_alloc)⟩
   ·have e3 := (beq_nat0 n3).trans (decide_eq_false h3)
    have HX := am (show nodeOK 2 ⟨#[]⟩ 0 n3 = false by unfold nodeOK; simp [h3])
    go_enter Tryz.func145, Tryz.ntmps145
    go_wp2
    go_quiet (fail)
    go_wp2
    go_ret2
    rw [HX.out]
    exact ⟨rfl, by repeat (first | exact Below.refl _ _ | apply below_drewN | apply below_drew1 | apply below_alloc)⟩
  ·have e2 := (beq_nat0 n2).trans (decide_eq_false h2)
   have HX := am (show nodeOK 2 ⟨#[]⟩ n2 n3 = false by unfold nodeOK; simp [h2])
   go_enter Tryz.func145, Tryz.ntmps145
   go_wp2
   go_quiet (fail)
   go_wp2
   go_ret2
   rw [HX.out]
   exact ⟨rfl, by repeat (first | exact Below.refl _ _ | apply below_drewN | apply below_drew1 | apply below_alloc)⟩
 ·obtain ⟨e1, e1'⟩ := str_ne f1 h1
  have HX := am (show nodeOK 2 f1 n2 n3 = false by unfold nodeOK; simp [h1])
  go_enter Tryz.func145, Tryz.ntmps145
  go_wp2
  go_quiet (fail)
  go_wp2
  go_ret2
  rw [HX.out]
  exact ⟨rfl, by repeat (first | exact Below.refl _ _ | apply below_drewN | apply below_drew1 | apply below_alloc)⟩
set_option maxRecDepth 1000000 in
set_option maxHeartbeats 1000000 in
theorem node5 (f1 : ByteArray) (A2 A3 : Option Addr) (n2 c2 n3 c3 : Nat) (W : World) :
  Calls Tryz.prog 145 #[jVal 5 f1 A2 A3 n2 c2 n3 c3] W fun x W' => x = .returned (.tuple #[.iface 211 (.agg #[.slice A3 n3 c3]), .bool (nodeOK 5 f1 n2 n3)]) ∧ Below W.heap.size W W' := by
 by_cases h1 : f1.size = 0
 ·have e1 := str_empty f1 h1
  subst e1
  by_cases h2 : n2 = 0
  ·subst h2
   have HX := am (show nodeOK 5 ⟨#[]⟩ 0 n3 = true by unfold nodeOK; rfl)
   go_enter Tryz.func145, Tryz.ntmps145
   go_wp2
   go_quiet (fail)
   go_wp2
   go_ret2
   rw [HX.out]
   exact ⟨rfl, by repeat (first | exact Below.refl _ _ | apply below_drewN | apply below_drew1 | apply below_alloc)⟩
  ·have e2 := (beq_nat0 n2).trans (decide_eq_false h2)
   have HX := am (show nodeOK 5 ⟨#[]⟩ n2 n3 = false by unfold nodeOK; simp [h2])
   go_enter Tryz.func145, Tryz.ntmps145
   go_wp2
   go_quiet (fail)
   go_wp2
   go_ret2
   rw [HX.out]
   exact ⟨rfl, by repeat (first | exact Below.refl _ _ | apply below_drewN | apply below_drew1 | apply below_alloc)⟩
 ·obtain ⟨e1, e1'⟩ := str_ne f1 h1
  have HX := am (show nodeOK 5 f1 n2 n3 = false by unfold nodeOK; simp [h1])
  go_enter Tryz.func145, Tryz.ntmps145
  go_wp2
  go_quiet (fail)
  go_wp2
  go_ret2
  rw [HX.out]
  exact ⟨rfl, by repeat (first | exact Below.refl _ _ | apply below_drewN | apply below_drew1 | apply below_alloc)⟩
set_option maxRecDepth 1000000 in
set_option maxHeartbeats 1000000 in
theorem node6 (f1 : ByteArray) (A2 A3 : Option Addr) (n2 c2 n3 c3 : Nat) (W : World) :
  Calls Tryz.prog 145 #[jVal 6 f1 A2 A3 n2 c2 n3 c3] W fun x W' => x = .returned (.tuple #[.iface 213 (.agg #[.slice A2 n2 c2, .slice A3 n3 c3]), .bool (nodeOK 6 f1 n2 n3)]) ∧ Below W.heap.size W W' := by
 by_cases h1 : f1.size = 0
 ·have e1 := str_empty f1 h1
  subst e1
  by_cases h2 : n2 = n3
  ·subst h2
   have HX := am (show nodeOK 6 ⟨#[]⟩ n2 n2 = true by unfold nodeOK; simp; rfl)
   go_enter Tryz.func145, Tryz.ntmps145
   go_wp2
   go_quiet (fail)
   go_wp2
   go_ret2
   rw [HX.out]
   exact ⟨rfl, by repeat (first | exact Below.refl _ _ | apply below_drewN | apply below_drew1 | apply below_alloc)⟩
  ·have e2 := (beq_nn n2 n3).trans (decide_eq_false h2)
   have HX := am (show nodeOK 6 ⟨#[]⟩ n2 n3 = false by unfold nodeOK; simp [h2])
   go_enter Tryz.func145, Tryz.ntmps145
   go_wp2
   go_quiet (fail)
   go_wp2
   go_ret2
   rw [HX.out]
   exact ⟨rfl, by repeat (first | exact Below.refl _ _ | apply below_drewN | apply below_drew1 | apply below_alloc)⟩
 ·obtain ⟨e1, e1'⟩ := str_ne f1 h1
  have HX := am (show nodeOK 6 f1 n2 n3 = false by unfold nodeOK; simp [h1])
  go_enter Tryz.func145, Tryz.ntmps145
  go_wp2
  go_quiet (fail)
  go_wp2
  go_ret2
  rw [HX.out]
  exact ⟨rfl, by repeat (first | exact Below.refl _ _ | apply below_drewN | apply below_drew1 | apply below_alloc)⟩
set_option maxRecDepth 1000000 in
set_option maxHeartbeats 1000000 in
theorem nodeX (f0 : Int) (h0 : ¬ f0 = 0) (h1 : ¬ f0 = 1) (h2 : ¬ f0 = 2) (h3 : ¬ f0 = 3) (h4 : ¬ f0 = 4) (h5 : ¬ f0 = 5) (h6 : ¬ f0 = 6) (f1 : ByteArray) (A2 A3 : Option Addr) (n2 c2 n3 c3 : Nat) (W : World) :
  Calls Tryz.prog 145 #[jVal f0 f1 A2 A3 n2 c2 n3 c3] W fun x W' => x = .returned (.tuple #[.nilIface, .bool (nodeOK f0 f1 n2 n3)]) ∧ Below W.heap.size W W' := by
 have HX := am (show nodeOK f0 f1 n2 n3 = false by unfold nodeOK; simp [h0, h1, h2, h3, h4, h5, h6])
 have e0 : (f0 == 0) = false := by simp [h0]
 have e1 : (f0 == 1) = false := by simp [h1]
 have e2 : (f0 == 2) = false := by simp [h2]
 have e3 : (f0 == 3) = false := by simp [h3]
 have e4 : (f0 == 4) = false := by simp [h4]
 have e5 : (f0 == 5) = false := by simp [h5]
 have e6 : (f0 == 6) = false := by simp [h6]
 clear h0 h1 h2 h3 h4 h5 h6
 go_enter Tryz.func145, Tryz.ntmps145
 go_wp2
 go_ret2
 rw [HX.out]
 exact ⟨rfl, by repeat (first | exact Below.refl _ _ | apply below_drewN | apply below_drew1 | apply below_alloc)⟩
theorem box4_after {W w1 : World} {a b c d : Value} {ty : TypeId} (h : Below (W.alloc (Obj.cells #[a, b, c, d] ty)).heap.size (W.alloc (Obj.cells #[a, b, c, d] ty)) w1) :
  Below W.heap.size W w1 ∧ w1.cell? ⟨W.heap.size, 1, none⟩ = some b ∧ w1.cell? ⟨W.heap.size, 2, none⟩ = some c ∧ w1.cell? ⟨W.heap.size, 3, none⟩ = some d := by
 have hs : W.heap.size < (W.alloc (Obj.cells #[a, b, c, d] ty)).heap.size := by rw [World.size_alloc]; omega
 refine ⟨(below_alloc (Below.refl _ _) _).trans (h.mono (Nat.le_of_lt hs)), ?_, ?_, ?_⟩
 ·exact (h.cell (p := ⟨W.heap.size, 1, none⟩) hs).trans (World.cell?_alloc_at _ _ _ 1 rfl)
 ·exact (h.cell (p := ⟨W.heap.size, 2, none⟩) hs).trans (World.cell?_alloc_at _ _ _ 2 rfl)
 ·exact (h.cell (p := ⟨W.heap.size, 3, none⟩) hs).trans (World.cell?_alloc_at _ _ _ 3 rfl)
set_option maxRecDepth 1000000 in
set_option maxHeartbeats 1000000 in
theorem node3 (f1 : ByteArray) (A2 A3 : Option Addr) (n2 c2 n3 c3 : Nat) (W : World) (hz : f1.size ≤ 9223372036854775806) :
  Calls Tryz.prog 145 #[jVal 3 f1 A2 A3 n2 c2 n3 c3] W fun x W' => x = .returned (.tuple #[.iface 207 (.agg #[.string f1]), .bool (nodeOK 3 f1 n2 n3)]) ∧ Below W.heap.size W W' := by
 cases hl2 : (litF f1.data.toList).2
 ·have HX := am (show nodeOK 3 f1 n2 n3 = false by unfold nodeOK; simp [hl2])
  go_enter Tryz.func145, Tryz.ntmps145
  go_upto_region 8 with (go_at_call 136; (with_reducible refine (literal_calls f1 hz _).mono ?_); rintro e w1 ⟨rfl, hb⟩; obtain ⟨hb4, d1, d2, d3⟩ := box4_after hb; have HB3 := am hb4; clear hb hb4)
  go_quiet (fail)
  go_wp2
  go_ret2
  rw [HX.out]
  exact ⟨rfl, by repeat (first | exact HB3.out | apply below_drewN | apply below_drew1 | apply below_alloc)⟩
 ·by_cases h1 : (litF f1.data.toList).1 = f1.size
  ·have e1 := (beq_nn (litF f1.data.toList).1 f1.size).trans (decide_eq_true h1)
   by_cases h2 : n2 = 0
   ·subst h2
    by_cases h3 : n3 = 0
    ·subst h3
     have HX0 := am h1
     clear h1
     have HX := am (show nodeOK 3 f1 0 0 = true by unfold nodeOK; have := HX0.out; simp [hl2, this])
     go_enter Tryz.func145, Tryz.ntmps145
     go_upto_region 8 with (go_at_call 136; (with_reducible refine (literal_calls f1 hz _).mono ?_); rintro e w1 ⟨rfl, hb⟩; obtain ⟨hb4, d1, d2, d3⟩ := box4_after hb; have HB3 := am hb4; clear hb hb4)
     go_quiet (fail)
     go_wp2
     go_ret2
     rw [HX.out]
     exact ⟨rfl, by repeat (first | exact HB3.out | apply below_drewN | apply below_drew1 | apply below_alloc)⟩
    ·have e3 := (beq_nat0 n3).trans (decide_eq_false h3)
     clear h1
     have HX := am (show nodeOK 3 f1 0 n3 = false by unfold nodeOK; simp [h3])
     go_enter Tryz.func145, Tryz.ntmps145
     go_upto_region 8 with (go_at_call 136; (with_reducible refine (literal_calls f1 hz _).mono ?_); rintro e w1 ⟨rfl, hb⟩; obtain ⟨hb4, d1, d2, d3⟩ := box4_after hb; have HB3 := am hb4; clear hb hb4)
     go_quiet (fail)
     go_wp2
     go_ret2
     rw [HX.out]
     exact ⟨rfl, by repeat (first | exact HB3.out | apply below_drewN | apply below_drew1 | apply below_alloc)⟩
   ·have e2 := (beq_nat0 n2).trans (decide_eq_false h2)
    clear h1
    have HX := am (show nodeOK 3 f1 n2 n3 = false by unfold nodeOK; simp [h2])
    go_enter Tryz.func145, Tryz.ntmps145
    go_upto_region 8 with (go_at_call 136; (with_reducible refine (literal_calls f1 hz _).mono ?_); rintro e w1 ⟨rfl, hb⟩; obtain ⟨hb4, d1, d2, d3⟩ := box4_after hb; have HB3 := am hb4; clear hb hb4)
    go_quiet (fail)
    go_wp2
    go_ret2
    rw [HX.out]
    exact ⟨rfl, by repeat (first | exact HB3.out | apply below_drewN | apply below_drew1 | apply below_alloc)⟩
  ·have e1 := (beq_nn (litF f1.data.toList).1 f1.size).trans (decide_eq_false h1)
   have HX := am (show nodeOK 3 f1 n2 n3 = false by unfold nodeOK; simp [h1])
   go_enter Tryz.func145, Tryz.ntmps145
   go_upto_region 8 with (go_at_call 136; (with_reducible refine (literal_calls f1 hz _).mono ?_); rintro e w1 ⟨rfl, hb⟩; obtain ⟨hb4, d1, d2, d3⟩ := box4_after hb; have HB3 := am hb4; clear hb hb4)
   go_quiet (fail)
   go_wp2
   go_ret2
   rw [HX.out]
   exact ⟨rfl, by repeat (first | exact HB3.out | apply below_drewN | apply below_drew1 | apply below_alloc)⟩
end Go.Proofs.YtpdelcbkcebkpaaGreatDoor.X
