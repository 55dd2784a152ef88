/- 'JtextPrints': for every value the program's Print and Canon and the document's tell the same text and the same error, and what is handed in stays; for every input the law returns true, and the argument reads as before: the row, then the card. -/
import Derived.Test.YtaalajhmfdcalaaDoorBq5
import Derived.Test.YtaalajhmfdcalaaDoorBq4
import Derived.Test.YtaalajhmfdcalaaDoorBq0
import Derived.Test.YtaalajhmfdcalaaDoorBq2
import Derived.Test.YtaalajhmfdcalaaDoorCards
import Derived.Test.YtaalajhmfdcalaaDoorTie
import Derived.Lay
import Derived.MakeChecks
import Derived.Stop.LaidErr
import Derived.ShapedOpen
import Derived.Shelf.Vars
import Derived.Lib.LaidTab
import Derived.Lib.LaidU8T
import Derived.WalkKit
import Derived.ProofKit
import Derived.OpenShut
import Derived.ShutString
import Derived.Carry
import Derived.SizedLaws
import Derived.Deep.DeepHandedRow
import Derived.Deep.DeepWitnessRowRef
set_option linter.unusedVariables false
set_option linter.unusedSimpArgs false
namespace Go.Proofs.YtaalajhmfdcalaaDoor.X
open Go.RowKit Go.Lib Go.Proofs.YtaalajhmfdcalaaDoorW.PrintWords Go.Proofs.YtaalajhmfdcalaaDoorW.PrintLast Go.Proofs.YtaalajhmfdcalaaDoorW.PrintMore
def RWOK (r : Nat) (d : Int) : Prop :=
 ∀ (B : Nat) (st : St) (sl : Value) (W : World) (v : J) (A2 A3 : Option Addr) (c2 c3 : Nat), Own B W sl st.out → st.out.length ≤ 16384 → SmJ r v → Kd.F Kd.string W (okP sl) A2 v.f2.length v.f2 → v.f2.length ≤ c2 → Kd.F k25 W (okP sl) A3 v.f3.length v.f3 → v.f3.length ≤ c3 →
  Calls Tryd.prog 34 #[.agg #[sl, .int .i64 st.e], jVal v.f0 v.f1 A2 A3 v.f2.length c2 v.f3.length c3, .int .i64 d] W (PEnds B sl W (valW false false r v st))
def ItAt (w : World) (ad : Addr) (i : Nat) (y : J) (B2 B3 : Option Addr) (k2 k3 : Nat) : Prop :=
 w.cell? (ad.add (i * 4)) = some (.int .i64 y.f0) ∧ w.cell? ⟨(ad.add (i * 4)).block, (ad.add (i * 4)).off + 1, none⟩ = some (.string y.f1) ∧ w.cell? ⟨(ad.add (i * 4)).block, (ad.add (i * 4)).off + 2, none⟩ = some (.slice B2 y.f2.length k2) ∧ w.cell? ⟨(ad.add (i * 4)).block, (ad.add (i * 4)).off + 3, none⟩ = some (.slice B3 y.f3.length k3)
theorem ItAt.drew {w : World} {ad : Addr} {i : Nat} {y : J} {B2 B3 : Option Addr} {k2 k3 : Nat} (h : ItAt w ad i y B2 B3 k2 k3) : ItAt w.drew ad i y B2 B3 k2 k3 := h
theorem it_held {B : Nat} {sl sl' : Value} {P0 P1 P2 : Prop} {W w : World} {ad : Addr} {l3 : List J} {i : Nat} {y : J} {B2 B3 : Option Addr} {k2 k3 : Nat} (hF : Kd.F k25 W (okP sl) (some ad) l3.length l3) (hon : PgOn B sl sl' W w) (hlt : i < l3.length) (h0 : P0) (h1 : P1) (h2 : P2) (hq : ItAt W ad i y B2 B3 k2 k3) :
  P0 ∧ P1 ∧ P2 ∧ w.cell? (ad.add (i * 4)) = some (.int .i64 y.f0) ∧ w.cell? ⟨(ad.add (i * 4)).block, (ad.add (i * 4)).off + 1, none⟩ = some (.string y.f1) ∧ w.cell? ⟨(ad.add (i * 4)).block, (ad.add (i * 4)).off + 2, none⟩ = some (.slice B2 y.f2.length k2) ∧ w.cell? ⟨(ad.add (i * 4)).block, (ad.add (i * 4)).off + 3, none⟩ = some (.slice B3 y.f3.length k3) := by
 have hok : okP sl ad.block := Kd.F_in hF rfl (by omega) (by decide)
 have hbl : (ad.add (i * 4)).block = ad.block := add_block _ _
 have hlt2 : ad.block < W.heap.size := by
  have := World.block_lt_of_cell? W _ hq.1
  rwa [hbl] at this
 have hk := hon.kept ad.block hlt2 hok
 have key : ∀ (a : Addr) (v : Value), a.block = ad.block → W.cell? a = some v → w.cell? a = some v := fun a v ha hc => (World.cell?_of_block (by rw [ha]; exact hk)).trans hc
 exact ⟨h0, h1, h2, key _ _ hbl hq.1, key _ _ hbl hq.2.1, key _ _ hbl hq.2.2.1, key _ _ hbl hq.2.2.2⟩
variable (B : Nat) (sl : Value) (d : Int) (f1 : ByteArray) (A2 A3 : Option Addr) (n2 c2 c3 : Nat) (W : World)
set_option maxRecDepth 1000000 in
set_option maxHeartbeats 8000000 in
theorem write_list (lo : List UInt8) (ho : Own B W sl lo) (hl : lo.length ≤ 16384) (hz : f1.size ≤ 288230376151711743) (l3 : List J) (r : Nat) (hf : fitZ d 5 f1 n2 l3.length = 0) (hsm : ∀ y, y ∈ l3 → SmJ r y) (hF3 : Kd.F k25 W (okP sl) A3 l3.length l3) (IH : RWOK r (wrap64 (d + 1))) :
  Calls Tryd.prog 34 #[.agg #[sl, .int .i64 ((0 : Nat) : Int)], jVal 5 f1 A2 A3 n2 c2 l3.length c3, .int .i64 d] W (PEnds B sl W (putF false (itemsW false (valW false false r) 0 l3 (putF false ⟨lo, 0⟩ [91])) [93])) := by
 have HP0 := am (PgB.start3 0 5 f1 A2 A3 n2 c2 l3.length c3 ho)
 obtain ⟨A0, c0, e0⟩ := ho.slice
 subst e0
 have HZ := am (show f1.size ≤ 4611686018427387904 by omega)
 have HFT := am hf
 have HL := am hl
 have HF3 := am hF3
 have HSM := am hsm
 have hmax := Kd.F_max hF3
 unfold RWOK at IH
 have HI := am IH
 clear hf ho hl hF3 hsm IH
 obtain ⟨tg, htg⟩ : ∃ tg, itemsW false (valW false false r) 0 l3 (putF false ⟨lo, 0⟩ [91]) = tg := ⟨_, rfl⟩
 have HTG := am htg
 rw [htg]
 clear htg
 go_enter Tryd.func34, Tryd.ntmps34
 go_wp2_with (first | (go_at_call 37; (with_reducible refine (fit_calls 5 f1 A2 A3 n2 c2 l3.length c3 d _ HZ.out).mono ?_); rintro e w1 ⟨rfl, hb⟩; rw [HFT.out]; have HP1 := am (HP0.out.below hb); obtain ⟨z0, z1, z2, z3⟩ := pg_cells HP1.out.box; obtain ⟨y0, y1, y2, y3⟩ := pg_cells HP1.out.res; obtain ⟨v0, v1, v2, v3⟩ := v_cells HP1.out.vb; have HPE := am (HP1.out.setE 0 0 rfl); clear hb) | (go_at_call 56; (with_reducible refine (rput0 B lo (.slice A0 lo.length c0) ⟨#[91]⟩ _ (by decide) HPE.out.own HL.out).mono ?_); rintro e w5 ⟨st5, sl5, rfl, hs5, ho5, hl5, hon5⟩; obtain ⟨A5, c5, rfl⟩ := ho5.slice; have HP5 := am (HPE.out.setP ho5 hon5 st5.e); obtain ⟨x0, x1, x2, x3⟩ := pg_cells (HPE.out.kept hon5 (Nat.le_refl _) (by omega) HPE.out.box); have HL5 := am hl5; have HS5 := am hs5; clear hs5 ho5 hl5 hon5))
 clear x0 x1 x2 x3 y0 y1 y2 y3 z0 z1 z2 z3 v0 v1 v2 v3 HPE HP1 HP0
 generalize (w5.setCell _ _).setCell _ _ = w6 at HP5 ⊢
 go_loopg [7] (l3.length + 1) (fun g v7 wr => ∃ (i : Nat) (st2 : St) (A : Option Addr) (c : Nat), v7 = .int .i64 (i : Int) ∧ i ≤ l3.length ∧ l3.length + 1 ≤ i + g ∧ Aside0 (PgB B (W.heap.size + 2) (some (vBox 5 f1 A2 A3 n2 c2 l3.length c3)) W wr (.slice A0 lo.length c0) (.slice A st2.out.length c) st2.out st2.e) ∧ Aside0 (st2.out.length ≤ 16384) ∧ Aside0 (SmE (itemsW false (valW false false r) (i) (l3.drop (i)) (st2)) tg))
 case atStart =>
  refine ⟨0, st5, A5, c5, rfl, Nat.zero_le _, by omega, HP5, HL5, ⟨?_⟩⟩
  rw [← HTG.out]
  exact SmE.fun (f := fun st => itemsW false (valW false false r) 0 l3 st) (fun st h => itemsW_bad false (fun y st h => valW_bad false false r y st h) l3 0 st h) HS5.out
 case round =>
  obtain ⟨i, st2, A, c, rfl, hi, hg, HP, HL2, HE⟩ := hrel
  clear HP5 HL5 HS5 HTG
  obtain ⟨z0, z1, z2, z3⟩ := pg_cells HP.out.box
  obtain ⟨y0, y1, y2, y3⟩ := pg_cells HP.out.res
  obtain ⟨v0, v1, v2, v3⟩ := v_cells HP.out.vb
  by_cases hlt : i < l3.length
  ·have p1 : (0 ≤ (i : Int)) = True := eq_true (by omega)
   have p2 : ((i : Int) < (l3.length : Int)) = True := eq_true (by omega)
   by_cases he : st2.e = 0
   ·cases gk with
    | zero => omega
    | succ g =>
     have e1 : ((st2.e : Int) == 0) = true := beq_iff_eq.mpr (by omega)
     have e2 : (st2.e == 0) = true := beq_iff_eq.mpr he
     obtain ⟨ad, _, _, _, _, e9, _⟩ := F_elem HF3.out i hlt
     subst e9
     have HWN := am (wrapn i l3.length hlt hmax)
     obtain ⟨y, hy⟩ : ∃ y, rd_T25 l3 (i : Int) = y := ⟨_, rfl⟩
     have HY := am hy
     have HSY := am (show SmJ r y from by rw [← hy]; exact HSM.out _ (rd_mem l3 i hlt))
     have HSt := am (show SmE (itemsW false (valW false false r) (i + 1) (l3.drop (i + 1)) (valW false false r y (if i = 0 then st2 else putF false st2 [44]))) tg from by
      have := HE.out
      rw [drop_rd l3 i hlt, hy, itemsW_cons] at this
      exact this)
     clear hy HE he
     by_cases hi0 : i = 0
     ·have c0' : decide ((0 : Int) < (i : Int)) = false := decide_eq_false (by omega)
      have c1' : ((0 : Int) < (i : Int)) = False := eq_false (by omega)
      have c2' : decide (0 < i) = false := decide_eq_false (by omega)
      have c3' : (0 < i) = False := eq_false (by omega)
      rw [if_pos hi0] at HSt
      clear hi0
      go_wp2
      clear z0 z1 z2 z3 y0 y1 y2 y3 v0 v1 v2 v3 c0' c1' c2' c3'
      obtain ⟨ad', B2, k2, B3, k3, e9, q0, q1, q2, q3, m2, g2, m3, g3⟩ := F_elem (F_pg HF3.out HP.out.on) i hlt
      obtain rfl := Option.some.inj e9
      rw [HY.out] at q0 q1 q2 q3 m2 g2 m3 g3
      have HQ0 := am q0
      have HQ1 := am q1
      have HQ2 := am q2
      have HQ3 := am q3
      have HM2 := am m2
      have HM3 := am m3
      have HG2 := am g2
      have HG3 := am g3
      clear e9 q0 q1 q2 q3 m2 m3 g2 g3
      refine start_ (n := 10) (S := fun w' => w'.cell? ⟨W.heap.size, 0, none⟩ = some (.slice A st2.out.length c) ∧ w'.cell? ⟨W.heap.size, 1, none⟩ = some (.int .i64 st2.e) ∧ w'.cell? ⟨W.heap.size + 1, 3, none⟩ = some (.slice (some ad) l3.length c3) ∧ w'.cell? (ad.add (i * 4)) = some (.int .i64 y.f0) ∧ w'.cell? ⟨(ad.add (i * 4)).block, (ad.add (i * 4)).off + 1, none⟩ = some (.string y.f1) ∧ w'.cell? ⟨(ad.add (i * 4)).block, (ad.add (i * 4)).off + 2, none⟩ = some (.slice B2 y.f2.length k2) ∧ w'.cell? ⟨(ad.add (i * 4)).block, (ad.add (i * 4)).off + 3, none⟩ = some (.slice B3 y.f3.length k3)) (ds := [9]) #[false, false, false, false, false, false, false, false, false, false] (by kernel_rfl) rfl rfl ⟨(blk_cell HP.out.box 0).trans rfl, (blk_cell HP.out.box 1).trans rfl, (blk_cell HP.out.vb 3).trans rfl, HQ0.out, HQ1.out, HQ2.out, HQ3.out⟩ (fun hHeld => ?_)
      have hbd : Below wr.heap.size wr wr.drew := pw_below_drewN (Below.refl _ _) 1
      have HP3 := am (HP.out.below hbd)
      have HG2' := am (Kd.F_below HG2.out hbd)
      have HG3' := am (Kd.F_below HG3.out hbd)
      have HQA := am (ItAt.drew (show ItAt wr ad i y B2 B3 k2 k3 from ⟨HQ0.out, HQ1.out, HQ2.out, HQ3.out⟩))
      clear hbd HG2 HG3 HQ0 HQ1 HQ2 HQ3 HP
      generalize wr.drew = w7 at HP3 HG2' HG3' HQA hHeld ⊢
      refine pure_ (i := 1) (N := some 80) (v := ?_) (a' := ?_) #[false, true, false, false, false, false, false, false, false, false] rfl rfl (by kernel_rfl) (fun _ _ _ h => h) (Or.inl ⟨by rfl, ?_⟩) ?_ ?_
      rotate_left
      ·intro w'
       go_simp
       with_reducible rfl
      rotate_left
      ·simp only [Act.put, sAx, sZx, sSx, i64_w, i32_w]
       rfl
      refine pure_ (i := 3) (N := some 82) (v := ?_) (a' := ?_) #[false, true, false, true, false, false, false, false, false, false] rfl rfl (by kernel_rfl) (fun _ _ _ h => h) (Or.inl ⟨by rfl, ?_⟩) ?_ ?_
      rotate_left
      ·intro w'
       go_simp
       with_reducible rfl
      rotate_left
      ·simp only [Act.put, sAx, sZx, sSx, i64_w, i32_w]
       rfl
      refine pure_ (i := 6) (N := some 85) (v := ?_) (a' := ?_) #[false, true, false, true, false, false, true, false, false, false] rfl rfl (by kernel_rfl) (fun _ _ _ h => h) (Or.inl ⟨by rfl, ?_⟩) ?_ ?_
      rotate_left
      ·intro w'
       go_simp
       with_reducible rfl
      rotate_left
      ·simp only [Act.put, sAx, sZx, sSx, i64_w, i32_w]
       rfl
      refine pure_ (i := 7) (N := some 86) (v := ?_) (a' := ?_) #[false, true, false, true, false, false, true, true, false, false] rfl rfl (by kernel_rfl) (fun _ _ _ h => h) (Or.inl ⟨by rfl, ?_⟩) ?_ ?_
      rotate_left
      ·intro w'
       go_simp
       with_reducible rfl
      rotate_left
      ·simp only [Act.put, sAx, sZx, sSx, i64_w, i32_w]
       rfl
      refine take_ (i := 0) (N := some 79) (v := ?_) (a' := ?_) #[true, true, false, true, false, false, true, true, false, false] rfl rfl (by kernel_rfl) (fun _ _ _ h => h) (Or.inl ⟨by rfl, ?_⟩) hHeld ?_ ?_
      rotate_left
      ·rintro w' ⟨s0, s1, s2, s3, s4, s5, s6⟩
       go_simp
       with_reducible rfl
      rotate_left
      ·simp only [Act.put, sAx, sZx, sSx, i64_w, i32_w]
       rfl
      refine take_ (i := 2) (N := some 81) (v := ?_) (a' := ?_) #[true, true, true, true, false, false, true, true, false, false] rfl rfl (by kernel_rfl) (fun _ _ _ h => h) (Or.inl ⟨by rfl, ?_⟩) hHeld ?_ ?_
      rotate_left
      ·rintro w' ⟨s0, s1, s2, s3, s4, s5, s6⟩
       go_simp
       with_reducible rfl
      rotate_left
      ·simp only [Act.put, sAx, sZx, sSx, i64_w, i32_w]
       rfl
      refine pure_ (i := 4) (N := some 83) (v := ?_) (a' := ?_) #[true, true, true, true, true, false, true, true, false, false] rfl rfl (by kernel_rfl) (fun _ _ _ h => h) (Or.inl ⟨by rfl, ?_⟩) ?_ ?_
      rotate_left
      ·intro w'
       go_simp
       with_reducible rfl
      rotate_left
      ·simp only [Act.put, sAx, sZx, sSx, i64_w, i32_w]
       rfl
      refine take_ (i := 5) (N := some 84) (v := ?_) (a' := ?_) #[true, true, true, true, true, true, true, true, false, false] rfl rfl (by kernel_rfl) (fun _ _ _ h => h) (Or.inl ⟨by rfl, ?_⟩) hHeld ?_ ?_
      rotate_left
      ·rintro w' ⟨s0, s1, s2, s3, s4, s5, s6⟩
       go_simp
       with_reducible rfl
      rotate_left
      ·simp only [Act.put, sAx, sZx, sSx, i64_w, i32_w]
       rfl
      refine one_ (i := 8) (N := some 87) #[true, true, true, true, true, true, true, true, true, false] rfl rfl (by kernel_rfl) (by decide) (fun K hK => ?_)
      refine goes_ Tryd.func34 (by kernel_rfl) rfl #[.agg #[.slice A st2.out.length c, .int .i64 st2.e], jVal y.f0 y.f1 B2 B3 y.f2.length k2 y.f3.length k3, .int .i64 (wrap64 (d + 1))] (by rfl) rfl rfl (by (try simp only [List.map_toArray, List.map_cons, List.map_nil]); first | done | rfl) ?_
      refine (HI.out B st2 (.slice A st2.out.length c) w7 y B2 B3 k2 k3 HP3.out.own HL2.out HSY.out HG2'.out HM2.out HG3'.out HM3.out).mono ?_
      rintro e w8 ⟨st8, sl8, rfl, hs8, ho8, hl8, hon8⟩
      obtain ⟨A8, c8, rfl⟩ := ho8.slice
      refine ⟨_, rfl, ?_⟩
      have HP8 := am (HP3.out.setP ho8 hon8 st8.e)
      have HS8 := am hs8
      have HL8 := am hl8
      have b0 := HP3.out.kept hon8 (Nat.le_refl _) (by omega) HP3.out.box
      have b1 := HP3.out.kept hon8 (Nat.le_succ _) (by omega) HP3.out.vb
      obtain ⟨x0, x1, x2, x3⟩ := pg_cells b0
      have HN8 := am hon8
      clear hs8 ho8 hl8 hon8
      refine hK.out _ _ (it_held (F_pg HF3.out HP3.out.on) HN8.out hlt x0 x1 ((blk_cell b1 3).trans rfl) HQA.out) (fun hHeld => ?_)
      clear hK K b0 b1
      refine norm_ (a' := ?_) ?_ ?_
      rotate_left
      ·show Act.put _ (some 87) _ = _
       simp only [Act.put, sAx, sZx, sSx, i64_w, i32_w]
       rfl
      refine last_ (i := 9) (N := none) #[true, true, true, true, true, true, true, true, true, true] rfl rfl (by kernel_rfl) (by decide) (fun K hK => ?_)
      refine skip_ (w1 := ?_) (by rfl) rfl ?_ ?_
      rotate_left
      ·go_simp
       rfl
      refine hK.out _ _ ?_
      clear hK K
      refine done_ (by kernel_rfl) ?_
      clear hHeld x0 x1 x2 x3 HP3 HG2' HG3' HQA
      generalize (w8.setCell _ _).setCell _ _ = w9 at HP8 ⊢
      go_wp2
      clear HI HF3 HN8
      go_roundg g
      case measure => omega
      case rel =>
       refine ⟨i + 1, st8, A8, c8, (by first | exact congrArg (Value.int .i64) HWN.out | exact congrArg (Value.int .i64) (show (i : Int) + 1 = ((i + 1 : Nat) : Int) by omega)), by omega, by omega, HP8, HL8, ⟨(SmE.fun (f := fun st => itemsW false (valW false false r) (i + 1) (l3.drop (i + 1)) (st)) (fun st h => itemsW_bad false (fun y st h => valW_bad false false r y st h) _ _ st h) (HS8.out)).trans HSt.out⟩⟩
     ·have c0' : decide ((0 : Int) < (i : Int)) = true := decide_eq_true (by omega)
      have c2' : decide (0 < i) = true := decide_eq_true (by omega)
      rw [if_neg hi0] at HSt
      clear hi0
      go_wp2_with (go_at_call 56; (with_reducible refine (rput_calls B st2 (.slice A st2.out.length c) ⟨#[44]⟩ _ (by decide) HP.out.own HL2.out).mono ?_); rintro e w4 ⟨st4, sl4, rfl, hs4, ho4, hl4, hon4⟩; obtain ⟨A4, c4, rfl⟩ := ho4.slice; have HP4 := am (HP.out.setP ho4 hon4 st4.e); obtain ⟨x0, x1, x2, x3⟩ := pg_cells (HP.out.kept hon4 (Nat.le_refl _) (by omega) HP.out.box); have HL4 := am hl4; have HS4 := am hs4; have HPX := HP4; obtain ⟨v0, v1, v2, v3⟩ := v_cells (HP.out.kept hon4 (Nat.le_succ _) (by omega) HP.out.vb); clear hs4 ho4 hl4 hon4)
      clear x0 x1 x2 x3 y0 y1 y2 y3 z0 z1 z2 z3 v0 v1 v2 v3 HP HPX c0' c2'
      generalize (w4.setCell _ _).setCell _ _ = w10 at HP4 ⊢
      obtain ⟨ad', B2, k2, B3, k3, e9, q0, q1, q2, q3, m2, g2, m3, g3⟩ := F_elem (F_pg HF3.out HP4.out.on) i hlt
      obtain rfl := Option.some.inj e9
      rw [HY.out] at q0 q1 q2 q3 m2 g2 m3 g3
      have HQ0 := am q0
      have HQ1 := am q1
      have HQ2 := am q2
      have HQ3 := am q3
      have HM2 := am m2
      have HM3 := am m3
      have HG2 := am g2
      have HG3 := am g3
      clear e9 q0 q1 q2 q3 m2 m3 g2 g3
      refine start_ (n := 10) (S := fun w' => w'.cell? ⟨W.heap.size, 0, none⟩ = some (.slice A4 st4.out.length c4) ∧ w'.cell? ⟨W.heap.size, 1, none⟩ = some (.int .i64 st4.e) ∧ w'.cell? ⟨W.heap.size + 1, 3, none⟩ = some (.slice (some ad) l3.length c3) ∧ w'.cell? (ad.add (i * 4)) = some (.int .i64 y.f0) ∧ w'.cell? ⟨(ad.add (i * 4)).block, (ad.add (i * 4)).off + 1, none⟩ = some (.string y.f1) ∧ w'.cell? ⟨(ad.add (i * 4)).block, (ad.add (i * 4)).off + 2, none⟩ = some (.slice B2 y.f2.length k2) ∧ w'.cell? ⟨(ad.add (i * 4)).block, (ad.add (i * 4)).off + 3, none⟩ = some (.slice B3 y.f3.length k3)) (ds := [9]) #[false, false, false, false, false, false, false, false, false, false] (by kernel_rfl) rfl rfl ⟨(blk_cell HP4.out.box 0).trans rfl, (blk_cell HP4.out.box 1).trans rfl, (blk_cell HP4.out.vb 3).trans rfl, HQ0.out, HQ1.out, HQ2.out, HQ3.out⟩ (fun hHeld => ?_)
      have hbd : Below w10.heap.size w10 w10.drew := pw_below_drewN (Below.refl _ _) 1
      have HP3 := am (HP4.out.below hbd)
      have HG2' := am (Kd.F_below HG2.out hbd)
      have HG3' := am (Kd.F_below HG3.out hbd)
      have HQA := am (ItAt.drew (show ItAt w10 ad i y B2 B3 k2 k3 from ⟨HQ0.out, HQ1.out, HQ2.out, HQ3.out⟩))
      clear hbd HG2 HG3 HQ0 HQ1 HQ2 HQ3 HP4
      generalize w10.drew = w7 at HP3 HG2' HG3' HQA hHeld ⊢
      refine pure_ (i := 1) (N := some 80) (v := ?_) (a' := ?_) #[false, true, false, false, false, false, false, false, false, false] rfl rfl (by kernel_rfl) (fun _ _ _ h => h) (Or.inl ⟨by rfl, ?_⟩) ?_ ?_
      rotate_left
      ·intro w'
       go_simp
       with_reducible rfl
      rotate_left
      ·simp only [Act.put, sAx, sZx, sSx, i64_w, i32_w]
       rfl
      refine pure_ (i := 3) (N := some 82) (v := ?_) (a' := ?_) #[false, true, false, true, false, false, false, false, false, false] rfl rfl (by kernel_rfl) (fun _ _ _ h => h) (Or.inl ⟨by rfl, ?_⟩) ?_ ?_
      rotate_left
      ·intro w'
       go_simp
       with_reducible rfl
      rotate_left
      ·simp only [Act.put, sAx, sZx, sSx, i64_w, i32_w]
       rfl
      refine pure_ (i := 6) (N := some 85) (v := ?_) (a' := ?_) #[false, true, false, true, false, false, true, false, false, false] rfl rfl (by kernel_rfl) (fun _ _ _ h => h) (Or.inl ⟨by rfl, ?_⟩) ?_ ?_
      rotate_left
      ·intro w'
       go_simp
       with_reducible rfl
      rotate_left
      ·simp only [Act.put, sAx, sZx, sSx, i64_w, i32_w]
       rfl
      refine pure_ (i := 7) (N := some 86) (v := ?_) (a' := ?_) #[false, true, false, true, false, false, true, true, false, false] rfl rfl (by kernel_rfl) (fun _ _ _ h => h) (Or.inl ⟨by rfl, ?_⟩) ?_ ?_
      rotate_left
      ·intro w'
       go_simp
       with_reducible rfl
      rotate_left
      ·simp only [Act.put, sAx, sZx, sSx, i64_w, i32_w]
       rfl
      refine take_ (i := 0) (N := some 79) (v := ?_) (a' := ?_) #[true, true, false, true, false, false, true, true, false, false] rfl rfl (by kernel_rfl) (fun _ _ _ h => h) (Or.inl ⟨by rfl, ?_⟩) hHeld ?_ ?_
      rotate_left
      ·rintro w' ⟨s0, s1, s2, s3, s4, s5, s6⟩
       go_simp
       with_reducible rfl
      rotate_left
      ·simp only [Act.put, sAx, sZx, sSx, i64_w, i32_w]
       rfl
      refine take_ (i := 2) (N := some 81) (v := ?_) (a' := ?_) #[true, true, true, true, false, false, true, true, false, false] rfl rfl (by kernel_rfl) (fun _ _ _ h => h) (Or.inl ⟨by rfl, ?_⟩) hHeld ?_ ?_
      rotate_left
      ·rintro w' ⟨s0, s1, s2, s3, s4, s5, s6⟩
       go_simp
       with_reducible rfl
      rotate_left
      ·simp only [Act.put, sAx, sZx, sSx, i64_w, i32_w]
       rfl
      refine pure_ (i := 4) (N := some 83) (v := ?_) (a' := ?_) #[true, true, true, true, true, false, true, true, false, false] rfl rfl (by kernel_rfl) (fun _ _ _ h => h) (Or.inl ⟨by rfl, ?_⟩) ?_ ?_
      rotate_left
      ·intro w'
       go_simp
       with_reducible rfl
      rotate_left
      ·simp only [Act.put, sAx, sZx, sSx, i64_w, i32_w]
       rfl
      refine take_ (i := 5) (N := some 84) (v := ?_) (a' := ?_) #[true, true, true, true, true, true, true, true, false, false] rfl rfl (by kernel_rfl) (fun _ _ _ h => h) (Or.inl ⟨by rfl, ?_⟩) hHeld ?_ ?_
      rotate_left
      ·rintro w' ⟨s0, s1, s2, s3, s4, s5, s6⟩
       go_simp
       with_reducible rfl
      rotate_left
      ·simp only [Act.put, sAx, sZx, sSx, i64_w, i32_w]
       rfl
      refine one_ (i := 8) (N := some 87) #[true, true, true, true, true, true, true, true, true, false] rfl rfl (by kernel_rfl) (by decide) (fun K hK => ?_)
      refine goes_ Tryd.func34 (by kernel_rfl) rfl #[.agg #[.slice A4 st4.out.length c4, .int .i64 st4.e], jVal y.f0 y.f1 B2 B3 y.f2.length k2 y.f3.length k3, .int .i64 (wrap64 (d + 1))] (by rfl) rfl rfl (by (try simp only [List.map_toArray, List.map_cons, List.map_nil]); first | done | rfl) ?_
      refine (HI.out B st4 (.slice A4 st4.out.length c4) w7 y B2 B3 k2 k3 HP3.out.own HL4.out HSY.out HG2'.out HM2.out HG3'.out HM3.out).mono ?_
      rintro e w8 ⟨st8, sl8, rfl, hs8, ho8, hl8, hon8⟩
      obtain ⟨A8, c8, rfl⟩ := ho8.slice
      refine ⟨_, rfl, ?_⟩
      have HP8 := am (HP3.out.setP ho8 hon8 st8.e)
      have HS8 := am hs8
      have HL8 := am hl8
      have b0 := HP3.out.kept hon8 (Nat.le_refl _) (by omega) HP3.out.box
      have b1 := HP3.out.kept hon8 (Nat.le_succ _) (by omega) HP3.out.vb
      obtain ⟨x0, x1, x2, x3⟩ := pg_cells b0
      have HN8 := am hon8
      clear hs8 ho8 hl8 hon8
      refine hK.out _ _ (it_held (F_pg HF3.out HP3.out.on) HN8.out hlt x0 x1 ((blk_cell b1 3).trans rfl) HQA.out) (fun hHeld => ?_)
      clear hK K b0 b1
      refine norm_ (a' := ?_) ?_ ?_
      rotate_left
      ·show Act.put _ (some 87) _ = _
       simp only [Act.put, sAx, sZx, sSx, i64_w, i32_w]
       rfl
      refine last_ (i := 9) (N := none) #[true, true, true, true, true, true, true, true, true, true] rfl rfl (by kernel_rfl) (by decide) (fun K hK => ?_)
      refine skip_ (w1 := ?_) (by rfl) rfl ?_ ?_
      rotate_left
      ·go_simp
       rfl
      refine hK.out _ _ ?_
      clear hK K
      refine done_ (by kernel_rfl) ?_
      clear hHeld x0 x1 x2 x3 HP3 HG2' HG3' HQA
      generalize (w8.setCell _ _).setCell _ _ = w9 at HP8 ⊢
      go_wp2
      clear HI HF3 HN8
      go_roundg g
      case measure => omega
      case rel =>
       refine ⟨i + 1, st8, A8, c8, (by first | exact congrArg (Value.int .i64) HWN.out | exact congrArg (Value.int .i64) (show (i : Int) + 1 = ((i + 1 : Nat) : Int) by omega)), by omega, by omega, HP8, HL8, ⟨(SmE.fun (f := fun st => itemsW false (valW false false r) (i + 1) (l3.drop (i + 1)) (st)) (fun st h => itemsW_bad false (fun y st h => valW_bad false false r y st h) _ _ st h) (HS8.out.trans (SmE.fun (f := valW false false r y) (fun st h => valW_bad false false r y st h) HS4.out))).trans HSt.out⟩⟩
   ·have HX := am (show SmE st2 tg from by have := HE.out; rwa [itemsW_bad false (fun y st h => valW_bad false false r y st h) _ _ _ he] at this)
    have e1 : ((st2.e : Int) == 0) = false := beq_eq_false_iff_ne.mpr (by omega)
    have e2 : (st2.e == 0) = false := beq_eq_false_iff_ne.mpr he
    clear he HE
    go_wp2_with (go_at_call 56; (with_reducible refine (rput_calls B st2 (.slice A st2.out.length c) ⟨#[93]⟩ _ (by decide) HP.out.own HL2.out).mono ?_); rintro e w9 ⟨st9, sl9, rfl, hs9, ho9, hl9, hon9⟩; obtain ⟨A9, c9, rfl⟩ := ho9.slice; have HR := am (HP.out.retP ho9 hon9 hl9 (hs9.trans (HX.out.put [93]))); obtain ⟨x0, x1, x2, x3⟩ := pg_cells (HP.out.kept hon9 (by omega) (Nat.le_refl _) HP.out.res); clear hs9 ho9 hl9 hon9)
    refine bodyPost_ret (results_cell_row rfl _ _ (W.heap.size + 2) 63 _ (0, 0) _ rfl HR.out.1 Tryd.underlying63 rfl (by kernel_rfl)) rfl ?_
    exact HR.out.2
  ·have p2 : ((i : Int) < (l3.length : Int)) = False := eq_false (by omega)
   have HX := am (show SmE st2 tg from by
    have := HE.out
    rw [List.drop_eq_nil_of_le (by omega : l3.length ≤ i)] at this
    exact this)
   clear HE
   go_wp2_with (go_at_call 56; (with_reducible refine (rput_calls B st2 (.slice A st2.out.length c) ⟨#[93]⟩ _ (by decide) HP.out.own HL2.out).mono ?_); rintro e w9 ⟨st9, sl9, rfl, hs9, ho9, hl9, hon9⟩; obtain ⟨A9, c9, rfl⟩ := ho9.slice; have HR := am (HP.out.retP ho9 hon9 hl9 (hs9.trans (HX.out.put [93]))); obtain ⟨x0, x1, x2, x3⟩ := pg_cells (HP.out.kept hon9 (by omega) (Nat.le_refl _) HP.out.res); clear hs9 ho9 hl9 hon9)
   refine bodyPost_ret (results_cell_row rfl _ _ (W.heap.size + 2) 63 _ (0, 0) _ rfl HR.out.1 Tryd.underlying63 rfl (by kernel_rfl)) rfl ?_
   exact HR.out.2
end Go.Proofs.YtaalajhmfdcalaaDoor.X
namespace Go.Proofs.YtaalajhmfdcalaaDoor.X
open Go.RowKit Go.Lib Go.Proofs.YtaalajhmfdcalaaDoorW.PrintWords Go.Proofs.YtaalajhmfdcalaaDoorW.PrintLast Go.Proofs.YtaalajhmfdcalaaDoorW.PrintMore
theorem mem_step {one : J → St → St} (hq : Quits one) (seen : List ByteArray) (i : Nat) (nm : ByteArray) (ns : List ByteArray) (y : J) (ys : List J) (st : St) :
  membersW false one seen i (nm :: ns) (y :: ys) st = membersW false one (seen ++ [nm]) (i + 1) ns ys (one y (nameW (if i = 0 then st else putF false st [44]) seen nm)) := by
 obtain ⟨st5, h5⟩ : ∃ st5, (if i = 0 then st else putF false st [44]) = st5 := ⟨_, rfl⟩
 rw [h5]
 by_cases he : st5.e = 0
 ·cases hv : validD nm.data.toList with
  | false =>
   rw [mW_B h5 he hv]
   have : nameW st5 seen nm = failF st5 47 := by unfold nameW; rw [if_neg (by simp [he]), if_pos hv]
   rw [this, hq _ _ (failF_e _ _ (by decide)), membersW_bad _ _ _ _ _ _ (failF_e _ _ (by decide))]
  | true =>
   by_cases hs : nm.data.toList ∈ seen.map (fun b => b.data.toList)
   ·rw [mW_C h5 he hv hs]
    have : nameW st5 seen nm = failF st5 45 := by unfold nameW; rw [if_neg (by simp [he]), if_neg (by rw [hv]; decide), if_pos hs]
    rw [this, hq _ _ (failF_e _ _ (by decide)), membersW_bad _ _ _ _ _ _ (failF_e _ _ (by decide))]
   ·rw [mW_D h5 he hv hs]
    have : nameW st5 seen nm = putF false (putsF false st5 (quoteB nm)) [58] := by unfold nameW; rw [if_neg (by simp [he]), if_neg (by rw [hv]; decide), if_neg hs]
    rw [this]
 ·rw [mW_A h5 he, nameW_bad _ _ he, hq _ _ he, membersW_bad _ _ _ _ _ _ he]
variable (B : Nat) (sl : Value) (d : Int) (f1 : ByteArray) (A2 A3 : Option Addr) (n2 c2 c3 : Nat) (W : World)
set_option maxRecDepth 1000000 in
set_option maxHeartbeats 8000000 in
theorem write_obj (lo : List UInt8) (ho : Own B W sl lo) (hl : lo.length ≤ 16384) (hz : f1.size ≤ 288230376151711743) (l3 : List J) (l2 : List ByteArray) (hn2 : l2.length = l3.length) (hsn : ∀ s, s ∈ l2 → s.size ≤ 288230376151711743) (hF2 : Kd.F Kd.string W (okP sl) A2 l2.length l2) (r : Nat) (hf : fitZ d 6 f1 l2.length l3.length = 0) (hsm : ∀ y, y ∈ l3 → SmJ r y) (hF3 : Kd.F k25 W (okP sl) A3 l3.length l3) (IH : RWOK r (wrap64 (d + 1))) :
  Calls Tryd.prog 34 #[.agg #[sl, .int .i64 ((0 : Nat) : Int)], jVal 6 f1 A2 A3 l2.length c2 l3.length c3, .int .i64 d] W (PEnds B sl W (putF false (membersW false (valW false false r) [] 0 l2 l3 (putF false ⟨lo, 0⟩ [123])) [125])) := by
 have HP0 := am (PgB.start3 0 6 f1 A2 A3 l2.length c2 l3.length c3 ho)
 obtain ⟨A0, c0, e0⟩ := ho.slice
 subst e0
 have HZ := am (show f1.size ≤ 4611686018427387904 by omega)
 have HFT := am hf
 have HL := am hl
 have HF3 := am hF3
 have HSM := am hsm
 have hmax := Kd.F_max hF3
 unfold RWOK at IH
 have HI := am IH
 have HF2 := am hF2
 have HSN := am hsn
 have HN2 := am hn2
 clear hf ho hl hF3 hsm IH hF2 hsn hn2
 obtain ⟨tg, htg⟩ : ∃ tg, membersW false (valW false false r) [] 0 l2 l3 (putF false ⟨lo, 0⟩ [123]) = tg := ⟨_, rfl⟩
 have HTG := am htg
 rw [htg]
 clear htg
 go_enter Tryd.func34, Tryd.ntmps34
 go_wp2_with (first | (go_at_call 37; (with_reducible refine (fit_calls 6 f1 A2 A3 l2.length c2 l3.length c3 d _ HZ.out).mono ?_); rintro e w1 ⟨rfl, hb⟩; rw [HFT.out]; have HP1 := am (HP0.out.below hb); obtain ⟨z0, z1, z2, z3⟩ := pg_cells HP1.out.box; obtain ⟨y0, y1, y2, y3⟩ := pg_cells HP1.out.res; obtain ⟨v0, v1, v2, v3⟩ := v_cells HP1.out.vb; have HPE := am (HP1.out.setE 0 0 rfl); clear hb) | (go_at_call 56; (with_reducible refine (rput0 B lo (.slice A0 lo.length c0) ⟨#[123]⟩ _ (by decide) HPE.out.own HL.out).mono ?_); rintro e w5 ⟨st5, sl5, rfl, hs5, ho5, hl5, hon5⟩; obtain ⟨A5, c5, rfl⟩ := ho5.slice; have HP5 := am (HPE.out.setP ho5 hon5 st5.e); obtain ⟨x0, x1, x2, x3⟩ := pg_cells (HPE.out.kept hon5 (Nat.le_refl _) (by omega) HPE.out.box); have HL5 := am hl5; have HS5 := am hs5; clear hs5 ho5 hl5 hon5))
 clear x0 x1 x2 x3 y0 y1 y2 y3 z0 z1 z2 z3 v0 v1 v2 v3 HPE HP1 HP0
 generalize (w5.setCell _ _).setCell _ _ = w6 at HP5 ⊢
 go_loopg [7] (l3.length + 1) (fun g v7 wr => ∃ (i : Nat) (st2 : St) (A : Option Addr) (c : Nat), v7 = .int .i64 (i : Int) ∧ i ≤ l3.length ∧ l3.length + 1 ≤ i + g ∧ Aside0 (PgB B (W.heap.size + 2) (some (vBox 6 f1 A2 A3 l2.length c2 l3.length c3)) W wr (.slice A0 lo.length c0) (.slice A st2.out.length c) st2.out st2.e) ∧ Aside0 (st2.out.length ≤ 16384) ∧ Aside0 (SmE (membersW false (valW false false r) (l2.take (i)) (i) (l2.drop (i)) (l3.drop (i)) (st2)) tg))
 case atStart =>
  refine ⟨0, st5, A5, c5, rfl, Nat.zero_le _, by omega, HP5, HL5, ⟨?_⟩⟩
  rw [← HTG.out]
  exact SmE.fun (f := fun st => membersW false (valW false false r) [] 0 l2 l3 st) (fun st h => membersW_bad false [] 0 l2 l3 st h) HS5.out
 case round =>
  obtain ⟨i, st2, A, c, rfl, hi, hg, HP, HL2, HE⟩ := hrel
  clear HP5 HL5 HS5 HTG
  obtain ⟨z0, z1, z2, z3⟩ := pg_cells HP.out.box
  obtain ⟨y0, y1, y2, y3⟩ := pg_cells HP.out.res
  obtain ⟨v0, v1, v2, v3⟩ := v_cells HP.out.vb
  by_cases hlt : i < l3.length
  ·have p1 : (0 ≤ (i : Int)) = True := eq_true (by omega)
   have p2 : ((i : Int) < (l3.length : Int)) = True := eq_true (by omega)
   by_cases he : st2.e = 0
   ·cases gk with
    | zero => omega
    | succ g =>
     have e1 : ((st2.e : Int) == 0) = true := beq_iff_eq.mpr (by omega)
     have e2 : (st2.e == 0) = true := beq_iff_eq.mpr he
     obtain ⟨ad, _, _, _, _, e9, _⟩ := F_elem HF3.out i hlt
     subst e9
     have HWN := am (wrapn i l3.length hlt hmax)
     obtain ⟨y, hy⟩ : ∃ y, rd_T25 l3 (i : Int) = y := ⟨_, rfl⟩
     have HY := am hy
     have HSY := am (show SmJ r y from by rw [← hy]; exact HSM.out _ (rd_mem l3 i hlt))
     have HDR := am (drop_rd l3 i hlt)
     have hlt2 : i < l2.length := by have := HN2.out; omega
     have HSt := am (show SmE (membersW false (valW false false r) (l2.take (i + 1)) (i + 1) (l2.drop (i + 1)) (l3.drop (i + 1)) (valW false false r y (nameW (if i = 0 then st2 else putF false st2 [44]) (l2.take i) (nmAt l2 i)))) tg from by
      have := HE.out
      rw [drop_rd l3 i hlt, drop_nm l2 i hlt2, hy, mem_step (fun y st h => valW_bad false false r y st h), ← take_nm l2 i hlt2] at this
      exact this)
     clear hy HE he HDR
     by_cases hi0 : i = 0
     ·have c0' : decide ((0 : Int) < (i : Int)) = false := decide_eq_false (by omega)
      have c1' : ((0 : Int) < (i : Int)) = False := eq_false (by omega)
      have c2' : decide (0 < i) = false := decide_eq_false (by omega)
      have c3' : (0 < i) = False := eq_false (by omega)
      rw [if_pos hi0] at HSt
      clear hi0
      go_wp2_with (go_at_call 58; (with_reducible refine (rname_calls B st2 (.slice A st2.out.length c) l2 A2 c2 i hlt2 _ HSN.out (F_pg HF2.out HP.out.on) HP.out.own HL2.out).mono ?_); rintro e w6 ⟨st6, sl6, rfl, hs6, ho6, hl6, hon6⟩; obtain ⟨A6, c6, rfl⟩ := ho6.slice; have HP6 := am (HP.out.setP ho6 hon6 st6.e); obtain ⟨x0, x1, x2, x3⟩ := pg_cells (HP.out.kept hon6 (Nat.le_refl _) (by omega) HP.out.box); have HL6 := am hl6; have HS6 := am hs6; clear hs6 ho6 hl6 hon6)
      clear x0 x1 x2 x3 y0 y1 y2 y3 z0 z1 z2 z3 v0 v1 v2 v3 HP c0' c1' c2' c3'
      generalize (w6.setCell _ _).setCell _ _ = w10 at HP6 ⊢
      obtain ⟨ad', B2, k2, B3, k3, e9, q0, q1, q2, q3, m2, g2, m3, g3⟩ := F_elem (F_pg HF3.out HP6.out.on) i hlt
      obtain rfl := Option.some.inj e9
      rw [HY.out] at q0 q1 q2 q3 m2 g2 m3 g3
      have HQ0 := am q0
      have HQ1 := am q1
      have HQ2 := am q2
      have HQ3 := am q3
      have HM2 := am m2
      have HM3 := am m3
      have HG2 := am g2
      have HG3 := am g3
      clear e9 q0 q1 q2 q3 m2 m3 g2 g3
      refine start_ (n := 10) (S := fun w' => w'.cell? ⟨W.heap.size, 0, none⟩ = some (.slice A6 st6.out.length c6) ∧ w'.cell? ⟨W.heap.size, 1, none⟩ = some (.int .i64 st6.e) ∧ w'.cell? ⟨W.heap.size + 1, 3, none⟩ = some (.slice (some ad) l3.length c3) ∧ w'.cell? (ad.add (i * 4)) = some (.int .i64 y.f0) ∧ w'.cell? ⟨(ad.add (i * 4)).block, (ad.add (i * 4)).off + 1, none⟩ = some (.string y.f1) ∧ w'.cell? ⟨(ad.add (i * 4)).block, (ad.add (i * 4)).off + 2, none⟩ = some (.slice B2 y.f2.length k2) ∧ w'.cell? ⟨(ad.add (i * 4)).block, (ad.add (i * 4)).off + 3, none⟩ = some (.slice B3 y.f3.length k3)) (ds := [9]) #[false, false, false, false, false, false, false, false, false, false] (by kernel_rfl) rfl rfl ⟨(blk_cell HP6.out.box 0).trans rfl, (blk_cell HP6.out.box 1).trans rfl, (blk_cell HP6.out.vb 3).trans rfl, HQ0.out, HQ1.out, HQ2.out, HQ3.out⟩ (fun hHeld => ?_)
      have hbd : Below w10.heap.size w10 w10.drew := pw_below_drewN (Below.refl _ _) 1
      have HP3 := am (HP6.out.below hbd)
      have HG2' := am (Kd.F_below HG2.out hbd)
      have HG3' := am (Kd.F_below HG3.out hbd)
      have HQA := am (ItAt.drew (show ItAt w10 ad i y B2 B3 k2 k3 from ⟨HQ0.out, HQ1.out, HQ2.out, HQ3.out⟩))
      clear hbd HG2 HG3 HQ0 HQ1 HQ2 HQ3 HP6
      generalize w10.drew = w7 at HP3 HG2' HG3' HQA hHeld ⊢
      refine pure_ (i := 1) (N := some 80) (v := ?_) (a' := ?_) #[false, true, false, false, false, false, false, false, false, false] rfl rfl (by kernel_rfl) (fun _ _ _ h => h) (Or.inl ⟨by rfl, ?_⟩) ?_ ?_
      rotate_left
      ·intro w'
       go_simp
       with_reducible rfl
      rotate_left
      ·simp only [Act.put, sAx, sZx, sSx, i64_w, i32_w]
       rfl
      refine pure_ (i := 3) (N := some 82) (v := ?_) (a' := ?_) #[false, true, false, true, false, false, false, false, false, false] rfl rfl (by kernel_rfl) (fun _ _ _ h => h) (Or.inl ⟨by rfl, ?_⟩) ?_ ?_
      rotate_left
      ·intro w'
       go_simp
       with_reducible rfl
      rotate_left
      ·simp only [Act.put, sAx, sZx, sSx, i64_w, i32_w]
       rfl
      refine pure_ (i := 6) (N := some 85) (v := ?_) (a' := ?_) #[false, true, false, true, false, false, true, false, false, false] rfl rfl (by kernel_rfl) (fun _ _ _ h => h) (Or.inl ⟨by rfl, ?_⟩) ?_ ?_
      rotate_left
      ·intro w'
       go_simp
       with_reducible rfl
      rotate_left
      ·simp only [Act.put, sAx, sZx, sSx, i64_w, i32_w]
       rfl
      refine pure_ (i := 7) (N := some 86) (v := ?_) (a' := ?_) #[false, true, false, true, false, false, true, true, false, false] rfl rfl (by kernel_rfl) (fun _ _ _ h => h) (Or.inl ⟨by rfl, ?_⟩) ?_ ?_
      rotate_left
      ·intro w'
       go_simp
       with_reducible rfl
      rotate_left
      ·simp only [Act.put, sAx, sZx, sSx, i64_w, i32_w]
       rfl
      refine take_ (i := 0) (N := some 79) (v := ?_) (a' := ?_) #[true, true, false, true, false, false, true, true, false, false] rfl rfl (by kernel_rfl) (fun _ _ _ h => h) (Or.inl ⟨by rfl, ?_⟩) hHeld ?_ ?_
      rotate_left
      ·rintro w' ⟨s0, s1, s2, s3, s4, s5, s6⟩
       go_simp
       with_reducible rfl
      rotate_left
      ·simp only [Act.put, sAx, sZx, sSx, i64_w, i32_w]
       rfl
      refine take_ (i := 2) (N := some 81) (v := ?_) (a' := ?_) #[true, true, true, true, false, false, true, true, false, false] rfl rfl (by kernel_rfl) (fun _ _ _ h => h) (Or.inl ⟨by rfl, ?_⟩) hHeld ?_ ?_
      rotate_left
      ·rintro w' ⟨s0, s1, s2, s3, s4, s5, s6⟩
       go_simp
       with_reducible rfl
      rotate_left
      ·simp only [Act.put, sAx, sZx, sSx, i64_w, i32_w]
       rfl
      refine pure_ (i := 4) (N := some 83) (v := ?_) (a' := ?_) #[true, true, true, true, true, false, true, true, false, false] rfl rfl (by kernel_rfl) (fun _ _ _ h => h) (Or.inl ⟨by rfl, ?_⟩) ?_ ?_
      rotate_left
      ·intro w'
       go_simp
       with_reducible rfl
      rotate_left
      ·simp only [Act.put, sAx, sZx, sSx, i64_w, i32_w]
       rfl
      refine take_ (i := 5) (N := some 84) (v := ?_) (a' := ?_) #[true, true, true, true, true, true, true, true, false, false] rfl rfl (by kernel_rfl) (fun _ _ _ h => h) (Or.inl ⟨by rfl, ?_⟩) hHeld ?_ ?_
      rotate_left
      ·rintro w' ⟨s0, s1, s2, s3, s4, s5, s6⟩
       go_simp
       with_reducible rfl
      rotate_left
      ·simp only [Act.put, sAx, sZx, sSx, i64_w, i32_w]
       rfl
      refine one_ (i := 8) (N := some 87) #[true, true, true, true, true, true, true, true, true, false] rfl rfl (by kernel_rfl) (by decide) (fun K hK => ?_)
      refine goes_ Tryd.func34 (by kernel_rfl) rfl #[.agg #[.slice A6 st6.out.length c6, .int .i64 st6.e], jVal y.f0 y.f1 B2 B3 y.f2.length k2 y.f3.length k3, .int .i64 (wrap64 (d + 1))] (by rfl) rfl rfl (by (try simp only [List.map_toArray, List.map_cons, List.map_nil]); first | done | rfl) ?_
      refine (HI.out B st6 (.slice A6 st6.out.length c6) w7 y B2 B3 k2 k3 HP3.out.own HL6.out HSY.out HG2'.out HM2.out HG3'.out HM3.out).mono ?_
      rintro e w8 ⟨st8, sl8, rfl, hs8, ho8, hl8, hon8⟩
      obtain ⟨A8, c8, rfl⟩ := ho8.slice
      refine ⟨_, rfl, ?_⟩
      have HP8 := am (HP3.out.setP ho8 hon8 st8.e)
      have HS8 := am hs8
      have HL8 := am hl8
      have b0 := HP3.out.kept hon8 (Nat.le_refl _) (by omega) HP3.out.box
      have b1 := HP3.out.kept hon8 (Nat.le_succ _) (by omega) HP3.out.vb
      obtain ⟨x0, x1, x2, x3⟩ := pg_cells b0
      have HN8 := am hon8
      clear hs8 ho8 hl8 hon8
      refine hK.out _ _ (it_held (F_pg HF3.out HP3.out.on) HN8.out hlt x0 x1 ((blk_cell b1 3).trans rfl) HQA.out) (fun hHeld => ?_)
      clear hK K b0 b1
      refine norm_ (a' := ?_) ?_ ?_
      rotate_left
      ·show Act.put _ (some 87) _ = _
       simp only [Act.put, sAx, sZx, sSx, i64_w, i32_w]
       rfl
      refine last_ (i := 9) (N := none) #[true, true, true, true, true, true, true, true, true, true] rfl rfl (by kernel_rfl) (by decide) (fun K hK => ?_)
      refine skip_ (w1 := ?_) (by rfl) rfl ?_ ?_
      rotate_left
      ·go_simp
       rfl
      refine hK.out _ _ ?_
      clear hK K
      refine done_ (by kernel_rfl) ?_
      clear hHeld x0 x1 x2 x3 HP3 HG2' HG3' HQA
      generalize (w8.setCell _ _).setCell _ _ = w9 at HP8 ⊢
      go_wp2
      clear HI HF3 HN8
      go_roundg g
      case measure => omega
      case rel =>
       refine ⟨i + 1, st8, A8, c8, (by first | exact congrArg (Value.int .i64) HWN.out | exact congrArg (Value.int .i64) (show (i : Int) + 1 = ((i + 1 : Nat) : Int) by omega)), by omega, by omega, HP8, HL8, ⟨(SmE.fun (f := fun st => membersW false (valW false false r) (l2.take (i + 1)) (i + 1) (l2.drop (i + 1)) (l3.drop (i + 1)) (st)) (fun st h => membersW_bad false _ _ _ _ st h) (HS8.out.trans (SmE.fun (f := valW false false r y) (fun st h => valW_bad false false r y st h) HS6.out))).trans HSt.out⟩⟩
     ·have c0' : decide ((0 : Int) < (i : Int)) = true := decide_eq_true (by omega)
      have c2' : decide (0 < i) = true := decide_eq_true (by omega)
      rw [if_neg hi0] at HSt
      clear hi0
      go_wp2_with (first | (go_at_call 56; (with_reducible refine (rput_calls B st2 (.slice A st2.out.length c) ⟨#[44]⟩ _ (by decide) HP.out.own HL2.out).mono ?_); rintro e w4 ⟨st4, sl4, rfl, hs4, ho4, hl4, hon4⟩; obtain ⟨A4, c4, rfl⟩ := ho4.slice; have HP4 := am (HP.out.setP ho4 hon4 st4.e); obtain ⟨x0, x1, x2, x3⟩ := pg_cells (HP.out.kept hon4 (Nat.le_refl _) (by omega) HP.out.box); have HL4 := am hl4; have HS4 := am hs4; have HPX := HP4; obtain ⟨v0, v1, v2, v3⟩ := v_cells (HP.out.kept hon4 (Nat.le_succ _) (by omega) HP.out.vb); clear hs4 ho4 hl4 hon4) | (go_at_call 58; (with_reducible refine (rname_calls B st4 (.slice A4 st4.out.length c4) l2 A2 c2 i hlt2 _ HSN.out (F_pg HF2.out HP4.out.on) HP4.out.own HL4.out).mono ?_); rintro e w6 ⟨st6, sl6, rfl, hs6, ho6, hl6, hon6⟩; obtain ⟨A6, c6, rfl⟩ := ho6.slice; have HP6 := am (HP4.out.setP ho6 hon6 st6.e); obtain ⟨x0, x1, x2, x3⟩ := pg_cells (HP4.out.kept hon6 (Nat.le_refl _) (by omega) HP4.out.box); have HL6 := am hl6; have HS6 := am hs6; clear hs6 ho6 hl6 hon6))
      clear x0 x1 x2 x3 y0 y1 y2 y3 z0 z1 z2 z3 v0 v1 v2 v3 HP HP4 HPX c0' c2'
      generalize (w6.setCell _ _).setCell _ _ = w10 at HP6 ⊢
      obtain ⟨ad', B2, k2, B3, k3, e9, q0, q1, q2, q3, m2, g2, m3, g3⟩ := F_elem (F_pg HF3.out HP6.out.on) i hlt
      obtain rfl := Option.some.inj e9
      rw [HY.out] at q0 q1 q2 q3 m2 g2 m3 g3
      have HQ0 := am q0
      have HQ1 := am q1
      have HQ2 := am q2
      have HQ3 := am q3
      have HM2 := am m2
      have HM3 := am m3
      have HG2 := am g2
      have HG3 := am g3
      clear e9 q0 q1 q2 q3 m2 m3 g2 g3
      refine start_ (n := 10) (S := fun w' => w'.cell? ⟨W.heap.size, 0, none⟩ = some (.slice A6 st6.out.length c6) ∧ w'.cell? ⟨W.heap.size, 1, none⟩ = some (.int .i64 st6.e) ∧ w'.cell? ⟨W.heap.size + 1, 3, none⟩ = some (.slice (some ad) l3.length c3) ∧ w'.cell? (ad.add (i * 4)) = some (.int .i64 y.f0) ∧ w'.cell? ⟨(ad.add (i * 4)).block, (ad.add (i * 4)).off + 1, none⟩ = some (.string y.f1) ∧ w'.cell? ⟨(ad.add (i * 4)).block, (ad.add (i * 4)).off + 2, none⟩ = some (.slice B2 y.f2.length k2) ∧ w'.cell? ⟨(ad.add (i * 4)).block, (ad.add (i * 4)).off + 3, none⟩ = some (.slice B3 y.f3.length k3)) (ds := [9]) #[false, false, false, false, false, false, false, false, false, false] (by kernel_rfl) rfl rfl ⟨(blk_cell HP6.out.box 0).trans rfl, (blk_cell HP6.out.box 1).trans rfl, (blk_cell HP6.out.vb 3).trans rfl, HQ0.out, HQ1.out, HQ2.out, HQ3.out⟩ (fun hHeld => ?_)
      have hbd : Below w10.heap.size w10 w10.drew := pw_below_drewN (Below.refl _ _) 1
      have HP3 := am (HP6.out.below hbd)
      have HG2' := am (Kd.F_below HG2.out hbd)
      have HG3' := am (Kd.F_below HG3.out hbd)
      have HQA := am (ItAt.drew (show ItAt w10 ad i y B2 B3 k2 k3 from ⟨HQ0.out, HQ1.out, HQ2.out, HQ3.out⟩))
      clear hbd HG2 HG3 HQ0 HQ1 HQ2 HQ3 HP6
      generalize w10.drew = w7 at HP3 HG2' HG3' HQA hHeld ⊢
      refine pure_ (i := 1) (N := some 80) (v := ?_) (a' := ?_) #[false, true, false, false, false, false, false, false, false, false] rfl rfl (by kernel_rfl) (fun _ _ _ h => h) (Or.inl ⟨by rfl, ?_⟩) ?_ ?_
      rotate_left
      ·intro w'
       go_simp
       with_reducible rfl
      rotate_left
      ·simp only [Act.put, sAx, sZx, sSx, i64_w, i32_w]
       rfl
      refine pure_ (i := 3) (N := some 82) (v := ?_) (a' := ?_) #[false, true, false, true, false, false, false, false, false, false] rfl rfl (by kernel_rfl) (fun _ _ _ h => h) (Or.inl ⟨by rfl, ?_⟩) ?_ ?_
      rotate_left
      ·intro w'
       go_simp
       with_reducible rfl
      rotate_left
      ·simp only [Act.put, sAx, sZx, sSx, i64_w, i32_w]
       rfl
      refine pure_ (i := 6) (N := some 85) (v := ?_) (a' := ?_) #[false, true, false, true, false, false, true, false, false, false] rfl rfl (by kernel_rfl) (fun _ _ _ h => h) (Or.inl ⟨by rfl, ?_⟩) ?_ ?_
      rotate_left
      ·intro w'
       go_simp
       with_reducible rfl
      rotate_left
      ·simp only [Act.put, sAx, sZx, sSx, i64_w, i32_w]
       rfl
      refine pure_ (i := 7) (N := some 86) (v := ?_) (a' := ?_) #[false, true, false, true, false, false, true, true, false, false] rfl rfl (by kernel_rfl) (fun _ _ _ h => h) (Or.inl ⟨by rfl, ?_⟩) ?_ ?_
      rotate_left
      ·intro w'
       go_simp
       with_reducible rfl
      rotate_left
      ·simp only [Act.put, sAx, sZx, sSx, i64_w, i32_w]
       rfl
      refine take_ (i := 0) (N := some 79) (v := ?_) (a' := ?_) #[true, true, false, true, false, false, true, true, false, false] rfl rfl (by kernel_rfl) (fun _ _ _ h => h) (Or.inl ⟨by rfl, ?_⟩) hHeld ?_ ?_
      rotate_left
      ·rintro w' ⟨s0, s1, s2, s3, s4, s5, s6⟩
       go_simp
       with_reducible rfl
      rotate_left
      ·simp only [Act.put, sAx, sZx, sSx, i64_w, i32_w]
       rfl
      refine take_ (i := 2) (N := some 81) (v := ?_) (a' := ?_) #[true, true, true, true, false, false, true, true, false, false] rfl rfl (by kernel_rfl) (fun _ _ _ h => h) (Or.inl ⟨by rfl, ?_⟩) hHeld ?_ ?_
      rotate_left
      ·rintro w' ⟨s0, s1, s2, s3, s4, s5, s6⟩
       go_simp
       with_reducible rfl
      rotate_left
      ·simp only [Act.put, sAx, sZx, sSx, i64_w, i32_w]
       rfl
      refine pure_ (i := 4) (N := some 83) (v := ?_) (a' := ?_) #[true, true, true, true, true, false, true, true, false, false] rfl rfl (by kernel_rfl) (fun _ _ _ h => h) (Or.inl ⟨by rfl, ?_⟩) ?_ ?_
      rotate_left
      ·intro w'
       go_simp
       with_reducible rfl
      rotate_left
      ·simp only [Act.put, sAx, sZx, sSx, i64_w, i32_w]
       rfl
      refine take_ (i := 5) (N := some 84) (v := ?_) (a' := ?_) #[true, true, true, true, true, true, true, true, false, false] rfl rfl (by kernel_rfl) (fun _ _ _ h => h) (Or.inl ⟨by rfl, ?_⟩) hHeld ?_ ?_
      rotate_left
      ·rintro w' ⟨s0, s1, s2, s3, s4, s5, s6⟩
       go_simp
       with_reducible rfl
      rotate_left
      ·simp only [Act.put, sAx, sZx, sSx, i64_w, i32_w]
       rfl
      refine one_ (i := 8) (N := some 87) #[true, true, true, true, true, true, true, true, true, false] rfl rfl (by kernel_rfl) (by decide) (fun K hK => ?_)
      refine goes_ Tryd.func34 (by kernel_rfl) rfl #[.agg #[.slice A6 st6.out.length c6, .int .i64 st6.e], jVal y.f0 y.f1 B2 B3 y.f2.length k2 y.f3.length k3, .int .i64 (wrap64 (d + 1))] (by rfl) rfl rfl (by (try simp only [List.map_toArray, List.map_cons, List.map_nil]); first | done | rfl) ?_
      refine (HI.out B st6 (.slice A6 st6.out.length c6) w7 y B2 B3 k2 k3 HP3.out.own HL6.out HSY.out HG2'.out HM2.out HG3'.out HM3.out).mono ?_
      rintro e w8 ⟨st8, sl8, rfl, hs8, ho8, hl8, hon8⟩
      obtain ⟨A8, c8, rfl⟩ := ho8.slice
      refine ⟨_, rfl, ?_⟩
      have HP8 := am (HP3.out.setP ho8 hon8 st8.e)
      have HS8 := am hs8
      have HL8 := am hl8
      have b0 := HP3.out.kept hon8 (Nat.le_refl _) (by omega) HP3.out.box
      have b1 := HP3.out.kept hon8 (Nat.le_succ _) (by omega) HP3.out.vb
      obtain ⟨x0, x1, x2, x3⟩ := pg_cells b0
      have HN8 := am hon8
      clear hs8 ho8 hl8 hon8
      refine hK.out _ _ (it_held (F_pg HF3.out HP3.out.on) HN8.out hlt x0 x1 ((blk_cell b1 3).trans rfl) HQA.out) (fun hHeld => ?_)
      clear hK K b0 b1
      refine norm_ (a' := ?_) ?_ ?_
      rotate_left
      ·show Act.put _ (some 87) _ = _
       simp only [Act.put, sAx, sZx, sSx, i64_w, i32_w]
       rfl
      refine last_ (i := 9) (N := none) #[true, true, true, true, true, true, true, true, true, true] rfl rfl (by kernel_rfl) (by decide) (fun K hK => ?_)
      refine skip_ (w1 := ?_) (by rfl) rfl ?_ ?_
      rotate_left
      ·go_simp
       rfl
      refine hK.out _ _ ?_
      clear hK K
      refine done_ (by kernel_rfl) ?_
      clear hHeld x0 x1 x2 x3 HP3 HG2' HG3' HQA
      generalize (w8.setCell _ _).setCell _ _ = w9 at HP8 ⊢
      go_wp2
      clear HI HF3 HN8
      go_roundg g
      case measure => omega
      case rel =>
       refine ⟨i + 1, st8, A8, c8, (by first | exact congrArg (Value.int .i64) HWN.out | exact congrArg (Value.int .i64) (show (i : Int) + 1 = ((i + 1 : Nat) : Int) by omega)), by omega, by omega, HP8, HL8, ⟨(SmE.fun (f := fun st => membersW false (valW false false r) (l2.take (i + 1)) (i + 1) (l2.drop (i + 1)) (l3.drop (i + 1)) (st)) (fun st h => membersW_bad false _ _ _ _ st h) (HS8.out.trans (SmE.fun (f := valW false false r y) (fun st h => valW_bad false false r y st h) (HS6.out.trans (SmE.fun (f := fun st => nameW st (l2.take i) (nmAt l2 i)) (fun st h => nameW_bad _ _ h) HS4.out))))).trans HSt.out⟩⟩
   ·have HX := am (show SmE st2 tg from by have := HE.out; rwa [membersW_bad _ _ _ _ _ _ he] at this)
    have e1 : ((st2.e : Int) == 0) = false := beq_eq_false_iff_ne.mpr (by omega)
    have e2 : (st2.e == 0) = false := beq_eq_false_iff_ne.mpr he
    clear he HE
    go_wp2_with (go_at_call 56; (with_reducible refine (rput_calls B st2 (.slice A st2.out.length c) ⟨#[125]⟩ _ (by decide) HP.out.own HL2.out).mono ?_); rintro e w9 ⟨st9, sl9, rfl, hs9, ho9, hl9, hon9⟩; obtain ⟨A9, c9, rfl⟩ := ho9.slice; have HR := am (HP.out.retP ho9 hon9 hl9 (hs9.trans (HX.out.put [125]))); obtain ⟨x0, x1, x2, x3⟩ := pg_cells (HP.out.kept hon9 (by omega) (Nat.le_refl _) HP.out.res); clear hs9 ho9 hl9 hon9)
    refine bodyPost_ret (results_cell_row rfl _ _ (W.heap.size + 2) 63 _ (0, 0) _ rfl HR.out.1 Tryd.underlying63 rfl (by kernel_rfl)) rfl ?_
    exact HR.out.2
  ·have p2 : ((i : Int) < (l3.length : Int)) = False := eq_false (by omega)
   have HX := am (show SmE st2 tg from by
    have := HE.out
    rw [List.drop_eq_nil_of_le (by omega : l3.length ≤ i), List.drop_eq_nil_of_le (by have := HN2.out; omega : l2.length ≤ i)] at this
    exact this)
   clear HE
   go_wp2_with (go_at_call 56; (with_reducible refine (rput_calls B st2 (.slice A st2.out.length c) ⟨#[125]⟩ _ (by decide) HP.out.own HL2.out).mono ?_); rintro e w9 ⟨st9, sl9, rfl, hs9, ho9, hl9, hon9⟩; obtain ⟨A9, c9, rfl⟩ := ho9.slice; have HR := am (HP.out.retP ho9 hon9 hl9 (hs9.trans (HX.out.put [125]))); obtain ⟨x0, x1, x2, x3⟩ := pg_cells (HP.out.kept hon9 (by omega) (Nat.le_refl _) HP.out.res); clear hs9 ho9 hl9 hon9)
   refine bodyPost_ret (results_cell_row rfl _ _ (W.heap.size + 2) 63 _ (0, 0) _ rfl HR.out.1 Tryd.underlying63 rfl (by kernel_rfl)) rfl ?_
   exact HR.out.2
end Go.Proofs.YtaalajhmfdcalaaDoor.X
namespace Go.Proofs.YtaalajhmfdcalaaDoor.X
open Go.RowKit Go.Lib Go.Proofs.YtaalajhmfdcalaaDoorW.PrintWords Go.Proofs.YtaalajhmfdcalaaDoorW.PrintLast Go.Proofs.YtaalajhmfdcalaaDoorW.PrintMore
theorem rleaf_ok (r : Nat) (d : Int) (hd : ¬ (32 : Int) < d) (B : Nat) (lo : List UInt8) (sl : Value) (W : World) (v : J) (A2 A3 : Option Addr) (c2 c3 : Nat) (ho : Own B W sl lo) (hl : lo.length ≤ 16384) (hz : v.f1.size ≤ 288230376151711743) (h5 : ¬ v.f0 = 5) (h6 : ¬ v.f0 = 6) :
  Calls Tryd.prog 34 #[.agg #[sl, .int .i64 ((0 : Nat) : Int)], jVal v.f0 v.f1 A2 A3 v.f2.length c2 v.f3.length c3, .int .i64 d] W (PEnds B sl W (valW false false r v ⟨lo, 0⟩)) := by
 have hdd : ¬ (((v.f0 = 5 ∨ v.f0 = 6) ∧ 32 ≤ d) ∨ 32 < d) := by omega
 rw [valW_plain false false r v ⟨lo, 0⟩ rfl h5 h6]
 cases hn : nodeOK v.f0 v.f1 v.f2.length v.f3.length with
 | false =>
  rw [if_pos rfl]
  exact write_unfit47 B sl d v.f0 v.f1 A2 A3 _ c2 _ c3 W lo ho hl hz (fit_47 hdd hn)
 | true =>
  rw [if_neg (by decide)]
  have hf := fit_0 hdd hn
  rcases nodeOK_plain hn h5 h6 with h | h | h | h | h
  ·rw [h] at hf ⊢
   rw [if_neg (by decide), if_neg (by decide)]
   exact write_word0 B sl d v.f1 A2 A3 _ c2 _ c3 W lo ho hl hz hf
  ·rw [h] at hf ⊢
   rw [if_neg (by decide), if_neg (by decide)]
   exact write_word1 B sl d v.f1 A2 A3 _ c2 _ c3 W lo ho hl hz hf
  ·rw [h] at hf ⊢
   rw [if_neg (by decide), if_neg (by decide)]
   exact write_word2 B sl d v.f1 A2 A3 _ c2 _ c3 W lo ho hl hz hf
  ·rw [h] at hf ⊢
   rw [if_pos rfl]
   exact write_num B sl d v.f1 A2 A3 _ c2 _ c3 W lo ho hl hz hf
  ·rw [h] at hf hn ⊢
   rw [if_neg (by decide), if_pos rfl]
   rw [nd4] at hn
   exact write_text B sl d v.f1 A2 A3 _ c2 _ c3 W lo ho hl hz (of_decide_eq_true hn).1 hf
theorem rwrite_ok : ∀ r, r ≤ 32 → RWOK r (32 - (r : Int))
 | 0, _ => by
  intro B st sl W v A2 A3 c2 c3 ho hl hsm hF2 hc2 hF3 hc3
  by_cases he : st.e = 0
  ·obtain ⟨lo, e⟩ := st
   dsimp at he
   subst he
   by_cases h56 : v.f0 = 5 ∨ v.f0 = 6
   ·rw [valW, if_neg (by simp), if_pos h56]
    exact write_unfit46 B sl _ v.f0 v.f1 A2 A3 _ c2 _ c3 W lo ho hl hsm.text (fit_46 (.inl ⟨h56, by omega⟩))
   ·exact rleaf_ok 0 _ (by omega) B lo sl W v A2 A3 c2 c3 ho hl hsm.text (fun h => h56 (.inl h)) (fun h => h56 (.inr h))
  ·rw [valW_bad _ _ _ _ _ he]
   exact write_bad B sl _ v.f0 v.f1 A2 A3 _ c2 _ c3 W st ho hl he
 | r + 1, hr => by
  have IH := rwrite_ok r (by omega)
  have ed : wrap64 ((32 - ((r + 1 : Nat) : Int)) + 1) = 32 - (r : Int) := by unfold wrap64; omega
  rw [← ed] at IH
  intro B st sl W v A2 A3 c2 c3 ho hl hsm hF2 hc2 hF3 hc3
  have hd1 : ¬ (32 : Int) < 32 - ((r + 1 : Nat) : Int) := by omega
  have hd2 : ¬ (32 : Int) ≤ 32 - ((r + 1 : Nat) : Int) := by omega
  have hdd : ¬ (((v.f0 = 5 ∨ v.f0 = 6) ∧ 32 ≤ 32 - ((r + 1 : Nat) : Int)) ∨ 32 < 32 - ((r + 1 : Nat) : Int)) := by omega
  obtain ⟨hz, hsn, hsy⟩ := (show v.f1.size ≤ 288230376151711743 ∧ (∀ s, s ∈ v.f2 → s.size ≤ 288230376151711743) ∧ ∀ y, y ∈ v.f3 → SmJ r y from hsm)
  by_cases he : st.e = 0
  ·obtain ⟨lo, e⟩ := st
   dsimp at he
   subst he
   by_cases h5 : v.f0 = 5
   ·rw [valW_succ false false r v ⟨lo, 0⟩ rfl]
    cases hok : nodeOK v.f0 v.f1 v.f2.length v.f3.length with
    | false => rw [if_pos rfl]; exact write_unfit47 B sl _ v.f0 v.f1 A2 A3 _ c2 _ c3 W lo ho hl hz (fit_47 hdd hok)
    | true =>
     have hf := fit_0 hdd hok
     rw [h5] at hf ⊢
     rw [if_neg (by decide), if_pos rfl]
     exact write_list B sl _ v.f1 A2 A3 _ c2 c3 W lo ho hl hz v.f3 r hf hsy hF3 IH
   ·by_cases h6 : v.f0 = 6
    ·rw [valW_succ false false r v ⟨lo, 0⟩ rfl]
     cases hok : nodeOK v.f0 v.f1 v.f2.length v.f3.length with
     | false => rw [if_pos rfl]; exact write_unfit47 B sl _ v.f0 v.f1 A2 A3 _ c2 _ c3 W lo ho hl hz (fit_47 hdd hok)
     | true =>
      have hf := fit_0 hdd hok
      rw [h6] at hf hok ⊢
      rw [if_neg (by decide), if_neg (by decide), if_pos rfl]
      exact write_obj B sl _ v.f1 A2 A3 c2 c3 W lo ho hl hz v.f3 v.f2 (node6_len hok) hsn hF2 r hf hsy hF3 IH
    ·exact rleaf_ok (r + 1) _ hd1 B lo sl W v A2 A3 c2 c3 ho hl hz h5 h6
  ·rw [valW_bad _ _ _ _ _ he]
   exact write_bad B sl _ v.f0 v.f1 A2 A3 _ c2 _ c3 W st ho hl he
theorem SmE.zero {a b : St} (h : SmE a b) (he : b.e = 0) : a = b := by
 rcases h with h | ⟨h1, h2⟩
 ·exact h
 ·exact absurd (h1.trans he) h2
set_option maxRecDepth 1000000 in
set_option maxHeartbeats 4000000 in
theorem rprint_calls (v : J) (A2 A3 : Option Addr) (c2 c3 : Nat) (W : World) (hsm : SmJ 32 v) (hC2 : Kd.string.C W A2 v.f2.length v.f2) (hc2 : v.f2.length ≤ c2) (hC3 : k25.C W A3 v.f3.length v.f3) (hc3 : v.f3.length ≤ c3) :
  Calls Tryd.prog 19 #[jVal v.f0 v.f1 A2 A3 v.f2.length c2 v.f3.length c3] W fun e W' => e = .returned (.tuple #[.string (printB v), .int .i64 (printS v).e]) ∧ Below W.heap.size W W' := by
 have hwr := rwrite_ok 32 (Nat.le_refl _)
 rw [show (32 : Int) - ((32 : Nat) : Int) = 0 by decide] at hwr
 have HV := am (show ∀ b : Obj, Calls Tryd.prog 34 #[.agg #[.slice none 0 0, .int .i64 0], jVal v.f0 v.f1 A2 A3 v.f2.length c2 v.f3.length c3, .int .i64 0] (W.alloc b) (PEnds (W.alloc b).heap.size (.slice none 0 0) (W.alloc b) (valW false false 32 v ⟨[], 0⟩)) from fun b => hwr (W.alloc b).heap.size ⟨[], 0⟩ (.slice none 0 0) (W.alloc b) v A2 A3 c2 c3 (Own.nil _ _ (Nat.le_refl _)) (by decide) hsm
  (Kd.F_alloc (Kd.F_mono (Kd.C_F Kd.heap_string hC2) (fun k _ => by simp [okP, Value.ownBlock])) b) hc2 (Kd.F_alloc (Kd.F_mono (Kd.C_F heap25 hC3) (fun k _ => by simp [okP, Value.ownBlock])) b) hc3)
 clear hwr hsm hC2 hC3 hc2 hc3
 have HS := am (show printS v = valW false false 32 v ⟨[], 0⟩ from rfl)
 have HPB := am (show printB v = if (printS v).e = 0 then bs (printS v).out else ⟨#[]⟩ from rfl)
 generalize printS v = ps at *
 generalize printB v = pb at *
 by_cases he : ps.e = 0
 ·have HP := am (show pb = bs ps.out by rw [HPB.out, if_pos he])
  have HE := am he
  go_enter Tryd.func19, Tryd.ntmps19
  go_wp2_with (go_at_call 34; (with_reducible refine (HV.out _).mono ?_); rintro e w1 ⟨st1, sl1, rfl, hs, ho, hl, hon⟩; rw [← HS.out] at hs; obtain rfl := SmE.zero hs he; obtain ⟨A1, c1, rfl⟩ := ho.slice; have hcv := fun (b : Obj) => own_string (Own.heap ho (W' := w1.alloc b) (by rw [World.size_alloc]; exact Nat.le_succ _) (fun g hg => Below.heap_alloc _ _ _ (ho.lt g hg).2)); have HB := am (show Below W.heap.size W w1 from (below_alloc (Below.refl _ _) _).trans (hon.low.mono (by rw [World.size_alloc]; exact Nat.le_succ _))); have e0 : ((st1.e : Int) != 0) = false := (by rw [he]; rfl); clear hs ho hl hon)
  go_ret2
  exact ⟨by rw [HP.out]; first | rfl | (rw [HE.out]; rfl), by repeat (first | exact HB.out | apply pw_below_drewN | apply below_drew1 | apply below_alloc)⟩
 ·have HP := am (show pb = (⟨#[]⟩ : ByteArray) by rw [HPB.out, if_neg he])
  go_enter Tryd.func19, Tryd.ntmps19
  go_wp2_with (go_at_call 34; (with_reducible refine (HV.out _).mono ?_); rintro e w1 ⟨st1, sl1, rfl, hs, ho, hl, hon⟩; rw [← HS.out] at hs; have HES := am hs.e; obtain ⟨A1, c1, rfl⟩ := ho.slice; have HB := am (show Below W.heap.size W w1 from (below_alloc (Below.refl _ _) _).trans (hon.low.mono (by rw [World.size_alloc]; exact Nat.le_succ _))); have e0 : ((st1.e : Int) != 0) = true := bne_iff_ne.mpr (by have := hs.e; omega); clear hs ho hl hon)
  go_quiet (fail)
  go_wp2
  go_ret2
  exact ⟨by rw [HP.out, ← HES.out]; rfl, by repeat (first | exact HB.out | apply pw_below_drewN | apply below_drew1 | apply below_alloc)⟩
set_option maxRecDepth 1000000 in
set_option maxHeartbeats 4000000 in
theorem rcanon_calls (v : J) (A2 A3 : Option Addr) (c2 c3 : Nat) (W : World) (hsm : SmJ 32 v) (hB : ∃ B, Bd B 10000 v) (hC2 : Kd.string.C W A2 v.f2.length v.f2) (hc2 : v.f2.length ≤ c2) (hC3 : k25.C W A3 v.f3.length v.f3) (hc3 : v.f3.length ≤ c3) :
  Calls Tryd.prog 21 #[jVal v.f0 v.f1 A2 A3 v.f2.length c2 v.f3.length c3] W fun e W' => e = .returned (.tuple #[.string (canonB v), .int .i64 (printS v).e]) ∧ Below W.heap.size W W' := by
 have HP := am (fun (w : World) (hb : Below W.heap.size W w) => rprint_calls v A2 A3 c2 c3 w hsm (Kd.C_below hC2 hb) hc2 (Kd.C_below hC3 hb) hc3)
 by_cases he : (printS v).e = 0
 ·have hf := fits_of he
  have HS := am (fun (w : World) (hb : Below W.heap.size W w) => rsorted_ok 32 v A2 A3 c2 c3 w hf.ok hB (Kd.C_below hC2 hb) hc2 (Kd.C_below hC3 hb) hc3)
  have HZ := am (show SmJ 32 (sJ 32 v) from SmJ_of_wt 32 _ (by have := hf.sort.wt; omega))
  have HO := am (show canonB v = printB (sJ 32 v) ∧ (printS (sJ 32 v)).e = 0 from ⟨hf.canon_print, hf.sort.print_e⟩)
  have HE := am he
  have e0 : (((printS v).e : Int) != 0) = false := by rw [he]; rfl
  clear hsm hB hC2 hc2 hC3 hc3 he hf
  go_enter Tryd.func21, Tryd.ntmps21
  go_wp2_with (first | (go_at_call 19; (with_reducible refine (HP.out _ (below_alloc (Below.refl _ _) _)).mono ?_); rintro e w1 ⟨rfl, hb⟩; have HB1 := am (show Below W.heap.size W w1 from below_step (below_alloc (Below.refl _ _) _) hb); have xb := (hb.block _ (lt_of_block (heap_alloc_new W (.cells #[.int .i64 v.f0, .string v.f1, .slice A2 v.f2.length c2, .slice A3 v.f3.length c3] 25)))).trans (heap_alloc_new W (.cells #[.int .i64 v.f0, .string v.f1, .slice A2 v.f2.length c2, .slice A3 v.f3.length c3] 25)); obtain ⟨x0, x1, x2, x3⟩ := v_cells xb; clear hb xb) | (go_at_call 35; (with_reducible refine (HS.out _ HB1.out).mono ?_); rintro e w2 ⟨u2, u3, rfl, g2, g3, hb⟩; obtain ⟨X2, k2, rfl⟩ := Kd.R_slice g2; obtain ⟨X3, k3, rfl⟩ := Kd.R_slice g3; have HB2 := am (below_step HB1.out hb); have HG2 := am (Kd.R_reads' g2).2; have HG3 := am (Kd.R_reads' g3).2; clear g2 g3 hb) | (go_at_call 19; (with_reducible refine (rprint_calls (sJ 32 v) X2 X3 k2 k3 _ HZ.out HG2.out.2 HG2.out.1 HG3.out.2 HG3.out.1).mono ?_); rintro e w3 ⟨rfl, hb⟩; have HB3 := am (below_step HB2.out hb); clear hb))
  go_ret2
  exact ⟨by rw [HO.out.1, HE.out, ← HO.out.2]; rfl, by repeat (first | exact HB3.out | apply pw_below_drewN | apply below_drew1)⟩
 ·have HO := am (canonB_bad he)
  have e0 : (((printS v).e : Int) != 0) = true := bne_iff_ne.mpr (by omega)
  clear hsm hB hC2 hc2 hC3 hc3 he
  go_enter Tryd.func21, Tryd.ntmps21
  go_wp2_with ((go_at_call 19; (with_reducible refine (HP.out _ (below_alloc (Below.refl _ _) _)).mono ?_); rintro e w1 ⟨rfl, hb⟩; have HB1 := am (show Below W.heap.size W w1 from below_step (below_alloc (Below.refl _ _) _) hb); clear hb))
  go_ret2
  exact ⟨by rw [HO.out]; rfl, by repeat (first | exact HB1.out | apply pw_below_drewN | apply below_drew1)⟩
def wicketref04_Print.f (a0_0 : Int) (a0_1 : ByteArray) (l0_2 : List ByteArray) (l0_3 : List (S25)) : Option (ByteArray × Int) :=
 if smB 32 ⟨a0_0, a0_1, l0_2, l0_3⟩ = true then some (printB ⟨a0_0, a0_1, l0_2, l0_3⟩, ((printS ⟨a0_0, a0_1, l0_2, l0_3⟩).e : Int)) else none
theorem wicketref04_Print.calls (a0_0 : Int) (a0_1 : ByteArray) (A0_2 : Option Addr) (c0_2 : Nat) (l0_2 : List ByteArray) (A0_3 : Option Addr) (c0_3 : Nat) (l0_3 : List (S25)) (r1 : ByteArray) (r2 : Int) (w : World) (hr0_2 : Kd.C Kd.string w A0_2 l0_2.length l0_2) (hc0_2 : l0_2.length ≤ c0_2) (hr0_3 : Kd.C k25 w A0_3 l0_3.length l0_3) (hc0_3 : l0_3.length ≤ c0_3) (hG : GL w) (h : wicketref04_Print.f a0_0 a0_1 l0_2 l0_3 = some (r1, r2)) :
  Calls Tryd.prog 19 #[.agg #[.int .i64 a0_0, .string a0_1, .slice A0_2 l0_2.length c0_2, .slice A0_3 l0_3.length c0_3]] w fun e w' => e = .returned (.tuple #[.string r1, .int .i64 r2]) ∧ Below w.heap.size w w' := by
 unfold wicketref04_Print.f at h
 split at h
 ·rename_i hs
  simp only [Option.some.injEq, Prod.mk.injEq] at h
  obtain ⟨rfl, rfl⟩ := h
  exact rprint_calls ⟨a0_0, a0_1, l0_2, l0_3⟩ A0_2 A0_3 c0_2 c0_3 w ((smB_iff 32 _).1 hs) hr0_2 hc0_2 hr0_3 hc0_3
 ·cases h
def rcanOK (v : J) : Bool := smB 32 v && bdB 288230376151711743 10000 v
def wicketref04_Canon.f (a0_0 : Int) (a0_1 : ByteArray) (l0_2 : List ByteArray) (l0_3 : List (S25)) : Option (ByteArray × Int) :=
 if rcanOK ⟨a0_0, a0_1, l0_2, l0_3⟩ = true then some (canonB ⟨a0_0, a0_1, l0_2, l0_3⟩, ((printS ⟨a0_0, a0_1, l0_2, l0_3⟩).e : Int)) else none
theorem wicketref04_Canon.calls (a0_0 : Int) (a0_1 : ByteArray) (A0_2 : Option Addr) (c0_2 : Nat) (l0_2 : List ByteArray) (A0_3 : Option Addr) (c0_3 : Nat) (l0_3 : List (S25)) (r1 : ByteArray) (r2 : Int) (w : World) (hr0_2 : Kd.C Kd.string w A0_2 l0_2.length l0_2) (hc0_2 : l0_2.length ≤ c0_2) (hr0_3 : Kd.C k25 w A0_3 l0_3.length l0_3) (hc0_3 : l0_3.length ≤ c0_3) (hG : GL w) (h : wicketref04_Canon.f a0_0 a0_1 l0_2 l0_3 = some (r1, r2)) :
  Calls Tryd.prog 21 #[.agg #[.int .i64 a0_0, .string a0_1, .slice A0_2 l0_2.length c0_2, .slice A0_3 l0_3.length c0_3]] w fun e w' => e = .returned (.tuple #[.string r1, .int .i64 r2]) ∧ Below w.heap.size w w' := by
 unfold wicketref04_Canon.f at h
 split at h
 ·rename_i hs
  simp only [Option.some.injEq, Prod.mk.injEq] at h
  obtain ⟨rfl, rfl⟩ := h
  simp only [rcanOK, Bool.and_eq_true] at hs
  exact rcanon_calls ⟨a0_0, a0_1, l0_2, l0_3⟩ A0_2 A0_3 c0_2 c0_3 w ((smB_iff 32 _).1 hs.1) ⟨_, bdB_iff _ _ _ hs.2⟩ hr0_2 hc0_2 hr0_3 hc0_3
 ·cases h
end Go.Proofs.YtaalajhmfdcalaaDoor.X
namespace Go.Proofs.YtaalajhmfdcalaaDoor.X
open Go.RowKit Go.Proofs.YtaalajhmfdcalaaDoor.X Go.Proofs.YtaalajhmfdcalaaDoorW.PrintWords Go.Proofs.YtaalajhmfdcalaaDoorW.PrintLast Go.Proofs.YtaalajhmfdcalaaDoorW.PrintMore
attribute [local go_sem] max2_int min2_int max_two min_two max_three min_three max_four min_four   -- for this text's walks alone
set_option linter.unusedVariables false
set_option linter.unusedSimpArgs false
def wicketlaw04_JtextPrints.j0 : Nat → Bool → Int → ByteArray → List ByteArray → List (S25) → Int → ByteArray → List ByteArray → List (S25) → Option (Bool)
 | 0, _, _, _, _, _, _, _, _, _ => none
 | k + 1, x36, x155000, x155001, x155002, x155003, x165000, x165001, x165002, x165003 => if x36 = true then none else ((jtext_Canon.f x165000 x165001 x165002 x165003).bind fun bt171 => ((wicketref04_Canon.f x155000 x155001 x155002 x155003).bind fun bt173 => ((wicketlaw04_live.f).bind fun t175 => (if t175 = true then ((wicketlaw04_num.f bt171.2).bind fun t176 => (if t176 = bt173.2 then (if bt171.1.toList = bt173.1.toList then ((wicketref04_Equal.f x165000 x165001 x165002 x165003 x155000 x155001 x155002 x155003).bind fun t177 => (some t177)) else none) else none)) else none))))
def wicketlaw04_JtextPrints.f (k : Nat) (a0_0 : Int) (a0_1 : ByteArray) (l0_2 : List ByteArray) (l0_3 : List (S25)) : Option (Bool) := (wicketlaw04_large.f k a0_0 a0_1 l0_2 l0_3).bind fun t155 => (if t155 = true then (some true) else ((wicketref04_Twin.f k a0_0 a0_1 l0_2 l0_3).bind fun bt156 => ((jtext_Print.f bt156.1 bt156.2.1 bt156.2.2.1 bt156.2.2.2).bind fun bt165 => ((wicketref04_Print.f a0_0 a0_1 l0_2 l0_3).bind fun bt167 => ((wicketlaw04_num.f bt165.2).bind fun t169 => (if t169 = bt167.2 then (if bt165.1.toList = bt167.1.toList then ((wicketref04_Equal.f bt156.1 bt156.2.1 bt156.2.2.1 bt156.2.2.2 a0_0 a0_1 l0_2 l0_3).bind fun t170 => (wicketlaw04_JtextPrints.j0 k (!t170) a0_0 a0_1 l0_2 l0_3 bt156.1 bt156.2.1 bt156.2.2.1 bt156.2.2.2)) else none) else none))))))
theorem wicketlaw04_JtextPrints.mono_l : ∀ k, (∀ y0 y1 y2 y3 y4 y5 y6 y7 y8, LeO (wicketlaw04_JtextPrints.j0 k y0 y1 y2 y3 y4 y5 y6 y7 y8) (wicketlaw04_JtextPrints.j0 (k + 1) y0 y1 y2 y3 y4 y5 y6 y7 y8))
 | 0 => fun _ _ _ _ _ _ _ _ _ r h => by simp [wicketlaw04_JtextPrints.j0] at h
 | k + 1 => by
  have ih0 := wicketlaw04_JtextPrints.mono_l k
  ·intro y0 y1 y2 y3 y4 y5 y6 y7 y8
   unfold wicketlaw04_JtextPrints.j0
   repeat' first
   | (with_reducible exact ih0 _ _ _ _ _ _ _ _ _)
   | (with_reducible exact wicketlaw04_large.mono _ _ _ _ _)
   | (with_reducible exact wicketref04_Twin.mono _ _ _ _ _)
   | (with_reducible exact LeO.refl _)
   | (with_reducible exact LeO.none _)
   | (with_reducible refine LeO.ite ?_ ?_)
   | (with_reducible refine LeO.bind ?_ (fun _ => ?_))
   | exact ih0 _ _ _ _ _ _ _ _ _
   | exact wicketlaw04_large.mono _ _ _ _ _
   | exact wicketref04_Twin.mono _ _ _ _ _
   | exact LeO.none _
   | refine LeO.ite ?_ ?_
   | refine LeO.bind ?_ (fun _ => ?_)
theorem wicketlaw04_JtextPrints.mono : ∀ a0 a1 a2 a3 k, LeO (wicketlaw04_JtextPrints.f k a0 a1 a2 a3) (wicketlaw04_JtextPrints.f (k + 1) a0 a1 a2 a3) := by
 intro a0 a1 a2 a3 k
 have ih0 := wicketlaw04_JtextPrints.mono_l k
 unfold wicketlaw04_JtextPrints.f
 repeat' first
   | (with_reducible exact ih0 _ _ _ _ _ _ _ _ _)
   | (with_reducible exact wicketlaw04_large.mono _ _ _ _ _)
   | (with_reducible exact wicketref04_Twin.mono _ _ _ _ _)
   | (with_reducible exact LeO.refl _)
   | (with_reducible exact LeO.none _)
   | (with_reducible refine LeO.ite ?_ ?_)
   | (with_reducible refine LeO.bind ?_ (fun _ => ?_))
   | exact ih0 _ _ _ _ _ _ _ _ _
   | exact wicketlaw04_large.mono _ _ _ _ _
   | exact wicketref04_Twin.mono _ _ _ _ _
   | exact LeO.none _
   | refine LeO.ite ?_ ?_
   | refine LeO.bind ?_ (fun _ => ?_)
set_option maxHeartbeats 8000000 in
set_option maxRecDepth 100000 in
theorem wicketlaw04_JtextPrints.calls (k : Nat) (a0_0 : Int) (a0_1 : ByteArray) (A0_2 : Option Addr) (c0_2 : Nat) (l0_2 : List ByteArray) (A0_3 : Option Addr) (c0_3 : Nat) (l0_3 : List (S25)) (r : Bool) (w : World) (hr0_2 : Kd.C Kd.string w A0_2 l0_2.length l0_2) (hc0_2 : l0_2.length ≤ c0_2) (hr0_3 : Kd.C k25 w A0_3 l0_3.length l0_3) (hc0_3 : l0_3.length ≤ c0_3) (hG : GL w) (h : wicketlaw04_JtextPrints.f k a0_0 a0_1 l0_2 l0_3 = some r) :
  Calls Tryd.prog 6 #[.agg #[.int .i64 a0_0, .string a0_1, .slice A0_2 l0_2.length c0_2, .slice A0_3 l0_3.length c0_3]] w fun e w' => e = .returned (.bool r) ∧ Below w.heap.size w w' := by
 have hu25 := Tryd.underlying25
 have HR0_2 := am hr0_2
 have HC0_2 := am hc0_2
 clear hr0_2 hc0_2
 have HR0_3 := am hr0_3
 have HC0_3 := am hc0_3
 clear hr0_3 hc0_3
 have HB := am (Below.refl w.heap.size w)
 have HG := am hG
 clear hG
 have H : ((wicketlaw04_large.f k a0_0 a0_1 l0_2 l0_3).bind fun t155 => (if t155 = true then (some true) else ((wicketref04_Twin.f k a0_0 a0_1 l0_2 l0_3).bind fun bt156 => ((jtext_Print.f bt156.1 bt156.2.1 bt156.2.2.1 bt156.2.2.2).bind fun bt165 => ((wicketref04_Print.f a0_0 a0_1 l0_2 l0_3).bind fun bt167 => ((wicketlaw04_num.f bt165.2).bind fun t169 => (if t169 = bt167.2 then (if bt165.1.toList = bt167.1.toList then ((wicketref04_Equal.f bt156.1 bt156.2.1 bt156.2.2.1 bt156.2.2.2 a0_0 a0_1 l0_2 l0_3).bind fun t170 => (wicketlaw04_JtextPrints.j0 k (!t170) a0_0 a0_1 l0_2 l0_3 bt156.1 bt156.2.1 bt156.2.2.1 bt156.2.2.2)) else none) else none))))))) = some r := h
 clear h
 replace H := Option.bind_eq_some_iff.mp H
 obtain ⟨t155, A20, H⟩ := H
 replace H : (if t155 = true then (some true) else ((wicketref04_Twin.f k a0_0 a0_1 l0_2 l0_3).bind fun bt156 => ((jtext_Print.f bt156.1 bt156.2.1 bt156.2.2.1 bt156.2.2.2).bind fun bt165 => ((wicketref04_Print.f a0_0 a0_1 l0_2 l0_3).bind fun bt167 => ((wicketlaw04_num.f bt165.2).bind fun t169 => (if t169 = bt167.2 then (if bt165.1.toList = bt167.1.toList then ((wicketref04_Equal.f bt156.1 bt156.2.1 bt156.2.2.1 bt156.2.2.2 a0_0 a0_1 l0_2 l0_3).bind fun t170 => (wicketlaw04_JtextPrints.j0 k (!t170) a0_0 a0_1 l0_2 l0_3 bt156.1 bt156.2.1 bt156.2.2.1 bt156.2.2.2)) else none) else none)))))) = some r := H
 have A2 := am A20
 clear A20
 by_cases c3 : t155 = true
 ·subst c3
  have H1 : (some true) = some r := by rw [if_pos rfl] at H; exact H
  clear H
  have H := H1
  clear H1
  obtain rfl := Option.some.inj H
  go_enter Tryd.func6, Tryd.ntmps6
  go_wp2_with (first | ((with_reducible refine gate_dst (N := 1) rfl ?_); refine box_event ?hg (N := 1) ?hd (cs := #[.int .i64 a0_0, .string a0_1, .slice A0_2 l0_2.length c0_2, .slice A0_3 l0_3.length c0_3]) (t := 25) ?hr ?_; (case hd => rfl); (case hg => rfl); (case hr => first | (go_simp; done) | (go_simp; rfl)); intro gb154 hg w4 hbox hb; have n0_ := am (below_step (by repeat (first | (with_reducible first | exact HB.out | apply below_alloc | apply pw_below_drewN | apply below_drew1) | exact HB.out)) hb); have n1_ := am (hbox); have n2_ := am ((by rw [hg]; exact (below_size (by repeat (first | (with_reducible first | exact HB.out | apply below_alloc | apply pw_below_drewN | apply below_drew1) | exact HB.out))) : w.heap.size ≤ gb154)); have n3_ := am ((by rw [hg]; exact (below_size (by repeat (first | (with_reducible first | exact HB.out | apply below_alloc | apply pw_below_drewN | apply below_drew1) | exact HB.out))) : w.heap.size ≤ gb154)); clear HB; have HB := n0_; have BK154 := n1_; have GW154 := n2_; have GE154 := n3_; clear n0_ n1_ n2_ n3_; clear hb hbox hg; have hcz5_0 : w4.cell? ⟨gb154, 0, none⟩ = some (.int .i64 a0_0) := (blk_cell BK154.out 0).trans rfl; have hcz5_1 : w4.cell? ⟨gb154, 1, none⟩ = some (.string a0_1) := (blk_cell BK154.out 1).trans rfl; have hcz5_2 : w4.cell? ⟨gb154, 2, none⟩ = some (.slice A0_2 l0_2.length c0_2) := (blk_cell BK154.out 2).trans rfl; have hcz5_3 : w4.cell? ⟨gb154, 3, none⟩ = some (.slice A0_3 l0_3.length c0_3) := (blk_cell BK154.out 3).trans rfl; have hfz5_0 := blk_frozen BK154.out 0; have hfz5_1 := blk_frozen BK154.out 1; have hfz5_2 := blk_frozen BK154.out 2; have hfz5_3 := blk_frozen BK154.out 3) | ((with_reducible refine gate_callee (f := 16) rfl ?_); refine goesL_ (some 9) rfl rfl Tryd.func16 (by kernel_rfl) rfl #[.agg #[.int .i64 a0_0, .string a0_1, .slice A0_2 l0_2.length c0_2, .slice A0_3 l0_3.length c0_3]] rfl (by (try simp only [List.map_toArray, List.map_cons, List.map_nil]); first | done | rfl | (simp only [List.length_drop, List.length_take]; rfl)) ?_; (with_reducible refine (wicketlaw04_large.calls k a0_0 a0_1 _ _ l0_2 _ _ l0_3 true _ ?side1 ?side2 ?side3 ?side4 A2.out).mono ?_); (case side1 => repeat (first | exact (Kd.C_below HR0_2.out HB.out) | (with_reducible refine Kd.C_alloc ?_ _) | (with_reducible refine Kd.C_drewN ?_ _) | (with_reducible refine Kd.C_drew ?_))); (case side2 => exact HC0_2.out); (case side3 => repeat (first | exact (Kd.C_below HR0_3.out HB.out) | (with_reducible refine Kd.C_alloc ?_ _) | (with_reducible refine Kd.C_drewN ?_ _) | (with_reducible refine Kd.C_drew ?_))); (case side4 => exact HC0_3.out); rintro e w6 ⟨rfl, hb⟩; refine ⟨_, rfl, ?_⟩; have n0_ := am (blk_below (g := gb154) (o := .cells #[.int .i64 a0_0, .string a0_1, .slice A0_2 l0_2.length c0_2, .slice A0_3 l0_3.length c0_3] 25 (0, 0)) (by (with_reducible repeat (first | refine blk_drewN ?_ _ | refine blk_drew ?_ | refine blk_alloc ?_ _)); exact BK154.out) hb); have n1_ := am (below_step (by repeat (first | (with_reducible first | exact HB.out | apply below_alloc | apply pw_below_drewN | apply below_drew1 | refine below_set ?_ GE154.out) | exact HB.out)) hb); clear BK154; clear HB; have BK154 := n0_; have HB := n1_; clear n0_ n1_; (try clear hb); (try clear hb2); (try clear hk); (try clear hi)))
  go_ret
  exact ⟨by first | rfl | (simp [errW_none, errW_some] <;> rfl) | (simp [*, errW_none, errW_some] <;> rfl), by repeat (first | (with_reducible first | exact HB.out | apply below_alloc | apply pw_below_drewN | apply below_drew1 | refine below_set ?_ GE154.out) | exact HB.out)⟩
 ·replace c3 := Bool.eq_false_iff.mpr c3
  subst c3
  have H1 : ((wicketref04_Twin.f k a0_0 a0_1 l0_2 l0_3).bind fun bt156 => ((jtext_Print.f bt156.1 bt156.2.1 bt156.2.2.1 bt156.2.2.2).bind fun bt165 => ((wicketref04_Print.f a0_0 a0_1 l0_2 l0_3).bind fun bt167 => ((wicketlaw04_num.f bt165.2).bind fun t169 => (if t169 = bt167.2 then (if bt165.1.toList = bt167.1.toList then ((wicketref04_Equal.f bt156.1 bt156.2.1 bt156.2.2.1 bt156.2.2.2 a0_0 a0_1 l0_2 l0_3).bind fun t170 => (wicketlaw04_JtextPrints.j0 k (!t170) a0_0 a0_1 l0_2 l0_3 bt156.1 bt156.2.1 bt156.2.2.1 bt156.2.2.2)) else none) else none))))) = some r := by rw [if_neg (show ¬ (false = true) by decide)] at H; exact H
  clear H
  have H := H1
  clear H1
  replace H := Option.bind_eq_some_iff.mp H
  obtain ⟨⟨t156, t157, t158, t161⟩, A70, H⟩ := H
  replace H : ((jtext_Print.f t156 t157 t158 t161).bind fun bt165 => ((wicketref04_Print.f a0_0 a0_1 l0_2 l0_3).bind fun bt167 => ((wicketlaw04_num.f bt165.2).bind fun t169 => (if t169 = bt167.2 then (if bt165.1.toList = bt167.1.toList then ((wicketref04_Equal.f t156 t157 t158 t161 a0_0 a0_1 l0_2 l0_3).bind fun t170 => (wicketlaw04_JtextPrints.j0 k (!t170) a0_0 a0_1 l0_2 l0_3 t156 t157 t158 t161)) else none) else none)))) = some r := H
  have A7 := am A70
  clear A70
  replace H := Option.bind_eq_some_iff.mp H
  obtain ⟨⟨t165, t166⟩, A80, H⟩ := H
  replace H : ((wicketref04_Print.f a0_0 a0_1 l0_2 l0_3).bind fun bt167 => ((wicketlaw04_num.f t166).bind fun t169 => (if t169 = bt167.2 then (if t165.toList = bt167.1.toList then ((wicketref04_Equal.f t156 t157 t158 t161 a0_0 a0_1 l0_2 l0_3).bind fun t170 => (wicketlaw04_JtextPrints.j0 k (!t170) a0_0 a0_1 l0_2 l0_3 t156 t157 t158 t161)) else none) else none))) = some r := H
  have A8 := am A80
  clear A80
  replace H := Option.bind_eq_some_iff.mp H
  obtain ⟨⟨t167, t168⟩, A90, H⟩ := H
  replace H : ((wicketlaw04_num.f t166).bind fun t169 => (if t169 = t168 then (if t165.toList = t167.toList then ((wicketref04_Equal.f t156 t157 t158 t161 a0_0 a0_1 l0_2 l0_3).bind fun t170 => (wicketlaw04_JtextPrints.j0 k (!t170) a0_0 a0_1 l0_2 l0_3 t156 t157 t158 t161)) else none) else none)) = some r := H
  have A9 := am A90
  clear A90
  have HC10 := am H
  clear H
  go_enter Tryd.func6, Tryd.ntmps6
  go_upto_region 6 with (first | ((with_reducible refine gate_dst (N := 1) rfl ?_); refine box_event ?hg (N := 1) ?hd (cs := #[.int .i64 a0_0, .string a0_1, .slice A0_2 l0_2.length c0_2, .slice A0_3 l0_3.length c0_3]) (t := 25) ?hr ?_; (case hd => rfl); (case hg => rfl); (case hr => first | (go_simp; done) | (go_simp; rfl)); intro gb154 hg w11 hbox hb; have n0_ := am (below_step (by repeat (first | (with_reducible first | exact HB.out | apply below_alloc | apply pw_below_drewN | apply below_drew1) | exact HB.out)) hb); have n1_ := am (hbox); have n2_ := am ((by rw [hg]; exact (below_size (by repeat (first | (with_reducible first | exact HB.out | apply below_alloc | apply pw_below_drewN | apply below_drew1) | exact HB.out))) : w.heap.size ≤ gb154)); have n3_ := am ((by rw [hg]; exact (below_size (by repeat (first | (with_reducible first | exact HB.out | apply below_alloc | apply pw_below_drewN | apply below_drew1) | exact HB.out))) : w.heap.size ≤ gb154)); clear HB; have HB := n0_; have BK154 := n1_; have GW154 := n2_; have GE154 := n3_; clear n0_ n1_ n2_ n3_; clear hb hbox hg; have hcz12_0 : w11.cell? ⟨gb154, 0, none⟩ = some (.int .i64 a0_0) := (blk_cell BK154.out 0).trans rfl; have hcz12_1 : w11.cell? ⟨gb154, 1, none⟩ = some (.string a0_1) := (blk_cell BK154.out 1).trans rfl; have hcz12_2 : w11.cell? ⟨gb154, 2, none⟩ = some (.slice A0_2 l0_2.length c0_2) := (blk_cell BK154.out 2).trans rfl; have hcz12_3 : w11.cell? ⟨gb154, 3, none⟩ = some (.slice A0_3 l0_3.length c0_3) := (blk_cell BK154.out 3).trans rfl; have hfz12_0 := blk_frozen BK154.out 0; have hfz12_1 := blk_frozen BK154.out 1; have hfz12_2 := blk_frozen BK154.out 2; have hfz12_3 := blk_frozen BK154.out 3) | ((with_reducible refine gate_callee (f := 16) rfl ?_); refine goesL_ (some 9) rfl rfl Tryd.func16 (by kernel_rfl) rfl #[.agg #[.int .i64 a0_0, .string a0_1, .slice A0_2 l0_2.length c0_2, .slice A0_3 l0_3.length c0_3]] rfl (by (try simp only [List.map_toArray, List.map_cons, List.map_nil]); first | done | rfl | (simp only [List.length_drop, List.length_take]; rfl)) ?_; (with_reducible refine (wicketlaw04_large.calls k a0_0 a0_1 _ _ l0_2 _ _ l0_3 false _ ?side1 ?side2 ?side3 ?side4 A2.out).mono ?_); (case side1 => repeat (first | exact (Kd.C_below HR0_2.out HB.out) | (with_reducible refine Kd.C_alloc ?_ _) | (with_reducible refine Kd.C_drewN ?_ _) | (with_reducible refine Kd.C_drew ?_))); (case side2 => exact HC0_2.out); (case side3 => repeat (first | exact (Kd.C_below HR0_3.out HB.out) | (with_reducible refine Kd.C_alloc ?_ _) | (with_reducible refine Kd.C_drewN ?_ _) | (with_reducible refine Kd.C_drew ?_))); (case side4 => exact HC0_3.out); rintro e w13 ⟨rfl, hb⟩; refine ⟨_, rfl, ?_⟩; have n0_ := am (blk_below (g := gb154) (o := .cells #[.int .i64 a0_0, .string a0_1, .slice A0_2 l0_2.length c0_2, .slice A0_3 l0_3.length c0_3] 25 (0, 0)) (by (with_reducible repeat (first | refine blk_drewN ?_ _ | refine blk_drew ?_ | refine blk_alloc ?_ _)); exact BK154.out) hb); have n1_ := am (below_step (by repeat (first | (with_reducible first | exact HB.out | apply below_alloc | apply pw_below_drewN | apply below_drew1 | refine below_set ?_ GE154.out) | exact HB.out)) hb); clear BK154; clear HB; have BK154 := n0_; have HB := n1_; clear n0_ n1_; (try clear hb); (try clear hb2); (try clear hk); (try clear hi); have hcz14_0 : w13.cell? ⟨gb154, 0, none⟩ = some (.int .i64 a0_0) := (blk_cell BK154.out 0).trans rfl; have hcz14_1 : w13.cell? ⟨gb154, 1, none⟩ = some (.string a0_1) := (blk_cell BK154.out 1).trans rfl; have hcz14_2 : w13.cell? ⟨gb154, 2, none⟩ = some (.slice A0_2 l0_2.length c0_2) := (blk_cell BK154.out 2).trans rfl; have hcz14_3 : w13.cell? ⟨gb154, 3, none⟩ = some (.slice A0_3 l0_3.length c0_3) := (blk_cell BK154.out 3).trans rfl; have hfz14_0 := blk_frozen BK154.out 0; have hfz14_1 := blk_frozen BK154.out 1; have hfz14_2 := blk_frozen BK154.out 2; have hfz14_3 := blk_frozen BK154.out 3) | ((with_reducible refine gate_callee (f := 18) rfl ?_); refine goesL_ (some 11) rfl rfl Tryd.func18 (by kernel_rfl) rfl #[.agg #[.int .i64 a0_0, .string a0_1, .slice A0_2 l0_2.length c0_2, .slice A0_3 l0_3.length c0_3]] rfl (by (try simp only [List.map_toArray, List.map_cons, List.map_nil]); first | done | rfl | (simp only [List.length_drop, List.length_take]; rfl)) ?_; (with_reducible refine (wicketref04_Twin.calls k a0_0 a0_1 _ _ l0_2 _ _ l0_3 t156 t157 t158 t161 _ ?side1 ?side2 ?side3 ?side4 A7.out).mono ?_); (case side1 => repeat (first | exact (Kd.C_below HR0_2.out HB.out) | (with_reducible refine Kd.C_alloc ?_ _) | (with_reducible refine Kd.C_drewN ?_ _) | (with_reducible refine Kd.C_drew ?_))); (case side2 => exact HC0_2.out); (case side3 => repeat (first | exact (Kd.C_below HR0_3.out HB.out) | (with_reducible refine Kd.C_alloc ?_ _) | (with_reducible refine Kd.C_drewN ?_ _) | (with_reducible refine Kd.C_drew ?_))); (case side4 => exact HC0_3.out); rintro e w15 ⟨v159, v162, rfl, ho0, ho1, hb⟩; refine ⟨_, rfl, ?_⟩; have n0_ := am (Kd.R_lower ho0 (below_size (by repeat (first | (with_reducible first | exact HB.out | apply below_alloc | apply pw_below_drewN | apply below_drew1 | refine below_set ?_ GE154.out) | exact HB.out)))); have n1_ := am (Kd.R_lower (Kd.R_newB ho1 (g := gb154) (o := .cells #[.int .i64 a0_0, .string a0_1, .slice A0_2 l0_2.length c0_2, .slice A0_3 l0_3.length c0_3] 25 (0, 0)) (by (with_reducible repeat (first | refine blk_drewN ?_ _ | refine blk_drew ?_ | refine blk_alloc ?_ _)); exact BK154.out)) (below_size (by repeat (first | (with_reducible first | exact HB.out | apply below_alloc | apply pw_below_drewN | apply below_drew1 | refine below_set ?_ GE154.out) | exact HB.out)))); have n2_ := am (blk_below (g := gb154) (o := .cells #[.int .i64 a0_0, .string a0_1, .slice A0_2 l0_2.length c0_2, .slice A0_3 l0_3.length c0_3] 25 (0, 0)) (by (with_reducible repeat (first | refine blk_drewN ?_ _ | refine blk_drew ?_ | refine blk_alloc ?_ _)); exact BK154.out) hb); have n3_ := am (below_step (by repeat (first | (with_reducible first | exact HB.out | apply below_alloc | apply pw_below_drewN | apply below_drew1 | refine below_set ?_ GE154.out) | exact HB.out)) hb); clear BK154; clear HB; have HO160 := n0_; have HO163 := n1_; have BK154 := n2_; have HB := n3_; clear n0_ n1_ n2_ n3_; (try clear hb); (try clear hb2); (try clear hk); (try clear hi); (try clear ho0); (try clear ho1)) | ((with_reducible refine gate_dst (N := 3) rfl ?_); refine box_event ?hg (N := 3) ?hd (cs := #[.int .i64 0, .string (⟨#[]⟩ : ByteArray), .slice none 0 0, .slice none 0 0]) (t := 25) ?hr ?_; (case hd => rfl); (case hg => rfl); (case hr => first | (go_simp; done) | (go_simp; rfl)); intro gb164 hg w16 hbox hb; have n0_ := am (Kd.R_below (by (with_reducible repeat (first | apply Kd.R_alloc | apply Kd.R_drewN | apply Kd.R_drew)); exact HO160.out) hb); have n1_ := am (Kd.R_below (Kd.R_elderB (by (with_reducible repeat (first | apply Kd.R_alloc | apply Kd.R_drewN | apply Kd.R_drew)); exact HO163.out) gb164 (Nat.le_of_eq hg.symm)) hb); have n2_ := am (blk_below (g := gb154) (o := .cells #[.int .i64 a0_0, .string a0_1, .slice A0_2 l0_2.length c0_2, .slice A0_3 l0_3.length c0_3] 25 (0, 0)) (by (with_reducible repeat (first | refine blk_drewN ?_ _ | refine blk_drew ?_ | refine blk_alloc ?_ _)); exact BK154.out) hb); have n3_ := am (below_step (by repeat (first | (with_reducible first | exact HB.out | apply below_alloc | apply pw_below_drewN | apply below_drew1 | refine below_set ?_ GE154.out) | exact HB.out)) hb); have n4_ := am (hbox); have n5_ := am ((by rw [hg]; exact (below_size (by repeat (first | (with_reducible first | exact HB.out | apply below_alloc | apply pw_below_drewN | apply below_drew1 | refine below_set ?_ GE154.out) | exact HB.out))) : w.heap.size ≤ gb164)); have n6_ := am ((by rw [hg]; exact (below_size (by repeat (first | (with_reducible first | exact HB.out | apply below_alloc | apply pw_below_drewN | apply below_drew1 | refine below_set ?_ GE154.out) | exact HB.out))) : w.heap.size ≤ gb164)); have n7_ := am ((by rw [hg]; exact Nat.ne_of_lt (blk_lt (g := gb154) (o := .cells #[.int .i64 a0_0, .string a0_1, .slice A0_2 l0_2.length c0_2, .slice A0_3 l0_3.length c0_3] 25 (0, 0)) (by (with_reducible repeat (first | refine blk_drewN ?_ _ | refine blk_drew ?_ | refine blk_alloc ?_ _)); exact BK154.out)) : gb154 ≠ gb164)); have n8_ := am ((by rw [hg]; exact Nat.ne_of_gt (blk_lt (g := gb154) (o := .cells #[.int .i64 a0_0, .string a0_1, .slice A0_2 l0_2.length c0_2, .slice A0_3 l0_3.length c0_3] 25 (0, 0)) (by (with_reducible repeat (first | refine blk_drewN ?_ _ | refine blk_drew ?_ | refine blk_alloc ?_ _)); exact BK154.out)) : gb164 ≠ gb154)); clear HO160; clear HO163; clear BK154; clear HB; have HO160 := n0_; have HO163 := n1_; have BK154 := n2_; have HB := n3_; have BK164 := n4_; have GW164 := n5_; have GE164 := n6_; have NB154_164 := n7_; have NB164_154 := n8_; clear n0_ n1_ n2_ n3_ n4_ n5_ n6_ n7_ n8_; clear hb hbox hg; have hnb17 := NB164_154.out; have hnc17 := NB154_164.out; have hcz18_0 : w16.cell? ⟨gb164, 0, none⟩ = some (.int .i64 0) := (blk_cell BK164.out 0).trans rfl; have hcz18_1 : w16.cell? ⟨gb164, 1, none⟩ = some (.string (⟨#[]⟩ : ByteArray)) := (blk_cell BK164.out 1).trans rfl; have hcz18_2 : w16.cell? ⟨gb164, 2, none⟩ = some (.slice none 0 0) := (blk_cell BK164.out 2).trans rfl; have hcz18_3 : w16.cell? ⟨gb164, 3, none⟩ = some (.slice none 0 0) := (blk_cell BK164.out 3).trans rfl; have hfz18_0 := blk_frozen BK164.out 0; have hfz18_1 := blk_frozen BK164.out 1; have hfz18_2 := blk_frozen BK164.out 2; have hfz18_3 := blk_frozen BK164.out 3; obtain ⟨Ao19, co19, eo19⟩ := Kd.R_slice HO160.out; subst eo19; obtain ⟨Ao20, co20, eo20⟩ := Kd.R_slice HO163.out; subst eo20) | ((with_reducible refine gate_callee (f := 17) rfl ?_); refine goesL_ (some 14) rfl rfl Tryd.func17 (by kernel_rfl) rfl #[.agg #[.int .i64 t156, .string t157, .slice Ao19 t158.length co19, .slice Ao20 t161.length co20]] rfl (by (try simp only [List.map_toArray, List.map_cons, List.map_nil]); first | done | rfl | (simp only [List.length_drop, List.length_take]; rfl)) ?_; (with_reducible refine (jtext_Print.calls t156 t157 _ _ t158 _ _ t161 t165 t166 _ ?side1 ?side2 ?side3 ?side4 ?side5 A8.out).mono ?_); (case side1 => refine (Kd.R_reads' (e := 9) (base := w.heap.size) (ok := fun k_ => True) (n := t158.length) (c := co19) ?_).2.2; exact (by (with_reducible repeat (first | apply Kd.R_alloc | apply Kd.R_drewN | apply Kd.R_drew)); exact (Kd.R_mono (Kd.R_far (p := ⟨gb164, 3, none⟩) (Kd.R_far (p := ⟨gb164, 2, none⟩) (Kd.R_far (p := ⟨gb164, 1, none⟩) (Kd.R_far (p := ⟨gb164, 0, none⟩) (Kd.R_types HO160.out BK164.out (by decide)) (fun _ hk => hk.2) (.int .i64 t156)) (fun _ hk => hk.2) (.string t157)) (fun _ hk => hk.2) (.slice Ao19 t158.length co19)) (fun _ hk => hk.2) (.slice Ao20 t161.length co20)) (fun _ h_ => h_.1)))); (case side2 => exact (Kd.R_reads' HO160.out).2.1); (case side3 => refine (Kd.R_reads' (e := 25) (base := w.heap.size) (ok := fun k_ => ((some k_ ≠ (.slice Ao19 t158.length co19 : Value).ownBlock ∧ k_ ≠ gb154) ∧ k_ ≠ gb164)) (n := t161.length) (c := co20) ?_).2.2; exact (by (with_reducible repeat (first | apply Kd.R_alloc | apply Kd.R_drewN | apply Kd.R_drew)); exact (Kd.R_mono (Kd.R_far (p := ⟨gb164, 3, none⟩) (Kd.R_far (p := ⟨gb164, 2, none⟩) (Kd.R_far (p := ⟨gb164, 1, none⟩) (Kd.R_far (p := ⟨gb164, 0, none⟩) (Kd.R_mono HO163.out (fun k_ hk => (⟨hk, hk.2⟩ : _ ∧ k_ ≠ gb164))) (fun _ hk => hk.2) (.int .i64 t156)) (fun _ hk => hk.2) (.string t157)) (fun _ hk => hk.2) (.slice Ao19 t158.length co19)) (fun _ hk => hk.2) (.slice Ao20 t161.length co20)) (fun _ h_ => h_.1)))); (case side4 => exact (Kd.R_reads' HO163.out).2.1); (case side5 => exact GL_below HG.out (by repeat (first | (with_reducible first | exact HB.out | apply below_alloc | apply pw_below_drewN | apply below_drew1 | refine below_set ?_ GE154.out | refine below_set ?_ GE164.out) | exact HB.out))); rintro e w21 ⟨rfl, hb⟩; refine ⟨_, rfl, ?_⟩; have n0_ := am (Kd.R_below (by (with_reducible repeat (first | apply Kd.R_alloc | apply Kd.R_drewN | apply Kd.R_drew)); exact (Kd.R_mono (Kd.R_far (p := ⟨gb164, 3, none⟩) (Kd.R_far (p := ⟨gb164, 2, none⟩) (Kd.R_far (p := ⟨gb164, 1, none⟩) (Kd.R_far (p := ⟨gb164, 0, none⟩) (Kd.R_types HO160.out BK164.out (by decide)) (fun _ hk => hk.2) (.int .i64 t156)) (fun _ hk => hk.2) (.string t157)) (fun _ hk => hk.2) (.slice Ao19 t158.length co19)) (fun _ hk => hk.2) (.slice Ao20 t161.length co20)) (fun _ h_ => h_.1))) hb); have n1_ := am (Kd.R_below (by (with_reducible repeat (first | apply Kd.R_alloc | apply Kd.R_drewN | apply Kd.R_drew)); exact (Kd.R_mono (Kd.R_far (p := ⟨gb164, 3, none⟩) (Kd.R_far (p := ⟨gb164, 2, none⟩) (Kd.R_far (p := ⟨gb164, 1, none⟩) (Kd.R_far (p := ⟨gb164, 0, none⟩) (Kd.R_mono HO163.out (fun k_ hk => (⟨hk, hk.2⟩ : _ ∧ k_ ≠ gb164))) (fun _ hk => hk.2) (.int .i64 t156)) (fun _ hk => hk.2) (.string t157)) (fun _ hk => hk.2) (.slice Ao19 t158.length co19)) (fun _ hk => hk.2) (.slice Ao20 t161.length co20)) (fun _ h_ => h_.1))) hb); have n2_ := am (blk_below (g := gb154) (o := .cells #[.int .i64 a0_0, .string a0_1, .slice A0_2 l0_2.length c0_2, .slice A0_3 l0_3.length c0_3] 25 (0, 0)) (by (with_reducible repeat (first | refine blk_drewN ?_ _ | refine blk_drew ?_ | refine blk_alloc ?_ _)); refine blk_far ?_ NB154_164.out _; (with_reducible repeat (first | refine blk_drewN ?_ _ | refine blk_drew ?_ | refine blk_alloc ?_ _)); refine blk_far ?_ NB154_164.out _; (with_reducible repeat (first | refine blk_drewN ?_ _ | refine blk_drew ?_ | refine blk_alloc ?_ _)); refine blk_far ?_ NB154_164.out _; (with_reducible repeat (first | refine blk_drewN ?_ _ | refine blk_drew ?_ | refine blk_alloc ?_ _)); refine blk_far ?_ NB154_164.out _; (with_reducible repeat (first | refine blk_drewN ?_ _ | refine blk_drew ?_ | refine blk_alloc ?_ _)); exact BK154.out) hb); have n3_ := am (blk_below (g := gb164) (o := .cells #[.int .i64 t156, .string t157, .slice Ao19 t158.length co19, .slice Ao20 t161.length co20] 25 (0, 0)) (by (with_reducible repeat (first | refine blk_drewN ?_ _ | refine blk_drew ?_ | refine blk_alloc ?_ _)); refine blk_put (cs := #[.int .i64 t156, .string t157, .slice Ao19 t158.length co19, .slice none 0 0]) ?_ 3 _ rfl; (with_reducible repeat (first | refine blk_drewN ?_ _ | refine blk_drew ?_ | refine blk_alloc ?_ _)); refine blk_put (cs := #[.int .i64 t156, .string t157, .slice none 0 0, .slice none 0 0]) ?_ 2 _ rfl; (with_reducible repeat (first | refine blk_drewN ?_ _ | refine blk_drew ?_ | refine blk_alloc ?_ _)); refine blk_put (cs := #[.int .i64 t156, .string (⟨#[]⟩ : ByteArray), .slice none 0 0, .slice none 0 0]) ?_ 1 _ rfl; (with_reducible repeat (first | refine blk_drewN ?_ _ | refine blk_drew ?_ | refine blk_alloc ?_ _)); refine blk_put (cs := #[.int .i64 0, .string (⟨#[]⟩ : ByteArray), .slice none 0 0, .slice none 0 0]) ?_ 0 _ rfl; (with_reducible repeat (first | refine blk_drewN ?_ _ | refine blk_drew ?_ | refine blk_alloc ?_ _)); exact BK164.out) hb); have n4_ := am (below_step (by repeat (first | (with_reducible first | exact HB.out | apply below_alloc | apply pw_below_drewN | apply below_drew1 | refine below_set ?_ GE154.out | refine below_set ?_ GE164.out) | exact HB.out)) hb); clear HO160; clear HO163; clear BK154; clear BK164; clear HB; have HO160 := n0_; have HO163 := n1_; have BK154 := n2_; have BK164 := n3_; have HB := n4_; clear n0_ n1_ n2_ n3_ n4_; (try clear hb); (try clear hb2); (try clear hk); (try clear hi); have hcz22_0 : w21.cell? ⟨gb154, 0, none⟩ = some (.int .i64 a0_0) := (blk_cell BK154.out 0).trans rfl; have hcz22_1 : w21.cell? ⟨gb154, 1, none⟩ = some (.string a0_1) := (blk_cell BK154.out 1).trans rfl; have hcz22_2 : w21.cell? ⟨gb154, 2, none⟩ = some (.slice A0_2 l0_2.length c0_2) := (blk_cell BK154.out 2).trans rfl; have hcz22_3 : w21.cell? ⟨gb154, 3, none⟩ = some (.slice A0_3 l0_3.length c0_3) := (blk_cell BK154.out 3).trans rfl; have hfz22_0 := blk_frozen BK154.out 0; have hfz22_1 := blk_frozen BK154.out 1; have hfz22_2 := blk_frozen BK154.out 2; have hfz22_3 := blk_frozen BK154.out 3) | ((with_reducible refine gate_callee (f := 19) rfl ?_); refine goesL_ (some 19) rfl rfl Tryd.func19 (by kernel_rfl) rfl #[.agg #[.int .i64 a0_0, .string a0_1, .slice A0_2 l0_2.length c0_2, .slice A0_3 l0_3.length c0_3]] rfl (by (try simp only [List.map_toArray, List.map_cons, List.map_nil]); first | done | rfl | (simp only [List.length_drop, List.length_take]; rfl)) ?_; (with_reducible refine (wicketref04_Print.calls a0_0 a0_1 _ _ l0_2 _ _ l0_3 t167 t168 _ ?side1 ?side2 ?side3 ?side4 ?side5 A9.out).mono ?_); (case side1 => repeat (first | exact (Kd.C_below HR0_2.out HB.out) | (with_reducible refine Kd.C_alloc ?_ _) | (with_reducible refine Kd.C_drewN ?_ _) | (with_reducible refine Kd.C_drew ?_))); (case side2 => exact HC0_2.out); (case side3 => repeat (first | exact (Kd.C_below HR0_3.out HB.out) | (with_reducible refine Kd.C_alloc ?_ _) | (with_reducible refine Kd.C_drewN ?_ _) | (with_reducible refine Kd.C_drew ?_))); (case side4 => exact HC0_3.out); (case side5 => exact GL_below HG.out (by repeat (first | (with_reducible first | exact HB.out | apply below_alloc | apply pw_below_drewN | apply below_drew1 | refine below_set ?_ GE154.out | refine below_set ?_ GE164.out) | exact HB.out))); rintro e w23 ⟨rfl, hb⟩; refine ⟨_, rfl, ?_⟩; have n0_ := am (Kd.R_below (by (with_reducible repeat (first | apply Kd.R_alloc | apply Kd.R_drewN | apply Kd.R_drew)); exact HO160.out) hb); have n1_ := am (Kd.R_below (by (with_reducible repeat (first | apply Kd.R_alloc | apply Kd.R_drewN | apply Kd.R_drew)); exact HO163.out) hb); have n2_ := am (blk_below (g := gb154) (o := .cells #[.int .i64 a0_0, .string a0_1, .slice A0_2 l0_2.length c0_2, .slice A0_3 l0_3.length c0_3] 25 (0, 0)) (by (with_reducible repeat (first | refine blk_drewN ?_ _ | refine blk_drew ?_ | refine blk_alloc ?_ _)); exact BK154.out) hb); have n3_ := am (blk_below (g := gb164) (o := .cells #[.int .i64 t156, .string t157, .slice Ao19 t158.length co19, .slice Ao20 t161.length co20] 25 (0, 0)) (by (with_reducible repeat (first | refine blk_drewN ?_ _ | refine blk_drew ?_ | refine blk_alloc ?_ _)); exact BK164.out) hb); have n4_ := am (below_step (by repeat (first | (with_reducible first | exact HB.out | apply below_alloc | apply pw_below_drewN | apply below_drew1 | refine below_set ?_ GE154.out | refine below_set ?_ GE164.out) | exact HB.out)) hb); clear HO160; clear HO163; clear BK154; clear BK164; clear HB; have HO160 := n0_; have HO163 := n1_; have BK154 := n2_; have BK164 := n3_; have HB := n4_; clear n0_ n1_ n2_ n3_ n4_; (try clear hb); (try clear hb2); (try clear hk); (try clear hi)))
  (try simp only [Act.put, sAx, sZx, sSx])
  go_cut [36] (fun v36 wc => ∃ (kq : Nat) (x36_9 : Bool), v36 = .bool x36_9 ∧ Aside0 (wicketlaw04_JtextPrints.j0 kq x36_9 a0_0 a0_1 l0_2 l0_3 t156 t157 t158 t161 = some r) ∧ Aside0 (kq ≤ k) ∧ Aside0 (Kd.R Kd.string 9 wc w.heap.size (fun _ => True) (.slice Ao19 t158.length co19) t158) ∧ Aside0 (Kd.R k25 25 wc w.heap.size (fun k_ => some k_ ≠ ((.slice Ao19 t158.length co19) : Value).ownBlock ∧ k_ ≠ gb154 ∧ k_ ≠ gb164) (.slice Ao20 t161.length co20) t161) ∧ Aside0 (wc.heap[gb154]? = some (.cells #[.int .i64 a0_0, .string a0_1, (.slice A0_2 l0_2.length c0_2), (.slice A0_3 l0_3.length c0_3)] 25 (0, 0))) ∧ Aside0 (wc.heap[gb164]? = some (.cells #[.int .i64 t156, .string t157, (.slice Ao19 t158.length co19), (.slice Ao20 t161.length co20)] 25 (0, 0))) ∧ Aside0 (Below w.heap.size w wc))
  case first =>
   have H := HC10.out
   clear HC10
   replace H := Option.bind_eq_some_iff.mp H
   obtain ⟨t169, A240, H⟩ := H
   obtain rfl : t166 = t169 := Option.some.inj A240
   replace H : (if t166 = t168 then (if t165.toList = t167.toList then ((wicketref04_Equal.f t156 t157 t158 t161 a0_0 a0_1 l0_2 l0_3).bind fun t170 => (wicketlaw04_JtextPrints.j0 k (!t170) a0_0 a0_1 l0_2 l0_3 t156 t157 t158 t161)) else none) else none) = some r := H
   have A24 := am A240
   clear A240
   by_cases c25 : t166 = t168
   ·rw [if_pos c25] at H
    have c25b0 : (t166 == t168) = true := beq_iff_eq.mpr c25
    have c25b1 : (t166 != t168) = false := bne_eq_false_iff_eq.mpr c25
    clear c25
    (first | rw [c25b0] | (simp only [i64_w, i32_w]; rw [c25b0]) | skip)
    by_cases c26 : t165.toList = t167.toList
    ·rw [if_pos c26] at H
     have c26b0 : (t165.toList == t167.toList) = true := beq_iff_eq.mpr c26
     have c26b1 : (t165.toList != t167.toList) = false := bne_eq_false_iff_eq.mpr c26
     clear c26
     replace H := Option.bind_eq_some_iff.mp H
     obtain ⟨t170, A270, H⟩ := H
     replace H : (wicketlaw04_JtextPrints.j0 k (!t170) a0_0 a0_1 l0_2 l0_3 t156 t157 t158 t161) = some r := H
     have A27 := am A270
     clear A270
     have H' := am H
     clear H
     go_wp2_with (first | ((with_reducible refine gate_callee (f := 14) rfl ?_); refine goesL_ (some 23) rfl rfl Tryd.func14 (by kernel_rfl) rfl #[.int .i64 t166] rfl (by (try simp only [List.map_toArray, List.map_cons, List.map_nil]); first | done | rfl | (simp only [List.length_drop, List.length_take]; rfl)) ?_; (with_reducible refine (wicketlaw04_num.calls t166 t166 _ A24.out).mono ?_); rintro e w' ⟨rfl, ⟨nd, rfl⟩⟩; refine ⟨_, rfl, ?_⟩; have hnb28 := NB164_154.out; have hnc28 := NB154_164.out; have hcz29_0 : w23.cell? ⟨gb164, 0, none⟩ = some (.int .i64 t156) := (blk_cell BK164.out 0).trans rfl; have hcz29_1 : w23.cell? ⟨gb164, 1, none⟩ = some (.string t157) := (blk_cell BK164.out 1).trans rfl; have hcz29_2 : w23.cell? ⟨gb164, 2, none⟩ = some (.slice Ao19 t158.length co19) := (blk_cell BK164.out 2).trans rfl; have hcz29_3 : w23.cell? ⟨gb164, 3, none⟩ = some (.slice Ao20 t161.length co20) := (blk_cell BK164.out 3).trans rfl; have hfz29_0 := blk_frozen BK164.out 0; have hfz29_1 := blk_frozen BK164.out 1; have hfz29_2 := blk_frozen BK164.out 2; have hfz29_3 := blk_frozen BK164.out 3; have hcz30_0 : w23.cell? ⟨gb154, 0, none⟩ = some (.int .i64 a0_0) := (blk_cell BK154.out 0).trans rfl; have hcz30_1 : w23.cell? ⟨gb154, 1, none⟩ = some (.string a0_1) := (blk_cell BK154.out 1).trans rfl; have hcz30_2 : w23.cell? ⟨gb154, 2, none⟩ = some (.slice A0_2 l0_2.length c0_2) := (blk_cell BK154.out 2).trans rfl; have hcz30_3 : w23.cell? ⟨gb154, 3, none⟩ = some (.slice A0_3 l0_3.length c0_3) := (blk_cell BK154.out 3).trans rfl; have hfz30_0 := blk_frozen BK154.out 0; have hfz30_1 := blk_frozen BK154.out 1; have hfz30_2 := blk_frozen BK154.out 2; have hfz30_3 := blk_frozen BK154.out 3) | (go_at_call 15; (with_reducible refine (wicketref04_Equal.calls t156 t157 _ _ t158 _ _ t161 a0_0 a0_1 _ _ l0_2 _ _ l0_3 t170 _ ?side1 ?side2 ?side3 ?side4 ?side5 ?side6 ?side7 ?side8 ?side9 A27.out).mono ?_); (case side1 => repeat (first | exact (Kd.R_reads' HO160.out).2.2 | (with_reducible refine Kd.C_alloc ?_ _) | (with_reducible refine Kd.C_drewN ?_ _) | (with_reducible refine Kd.C_drew ?_))); (case side2 => exact (Kd.R_reads' HO160.out).2.1); (case side3 => repeat (first | exact (Kd.R_reads' HO163.out).2.2 | (with_reducible refine Kd.C_alloc ?_ _) | (with_reducible refine Kd.C_drewN ?_ _) | (with_reducible refine Kd.C_drew ?_))); (case side4 => exact (Kd.R_reads' HO163.out).2.1); (case side5 => repeat (first | exact (Kd.C_below HR0_2.out (by repeat (first | (with_reducible first | exact HB.out | apply below_alloc | apply pw_below_drewN | apply below_drew1 | refine below_set ?_ GE154.out | refine below_set ?_ GE164.out) | exact HB.out))) | (with_reducible refine Kd.C_alloc ?_ _) | (with_reducible refine Kd.C_drewN ?_ _) | (with_reducible refine Kd.C_drew ?_))); (case side6 => exact HC0_2.out); (case side7 => repeat (first | exact (Kd.C_below HR0_3.out (by repeat (first | (with_reducible first | exact HB.out | apply below_alloc | apply pw_below_drewN | apply below_drew1 | refine below_set ?_ GE154.out | refine below_set ?_ GE164.out) | exact HB.out))) | (with_reducible refine Kd.C_alloc ?_ _) | (with_reducible refine Kd.C_drewN ?_ _) | (with_reducible refine Kd.C_drew ?_))); (case side8 => exact HC0_3.out); (case side9 => exact GL_below HG.out (by repeat (first | (with_reducible first | exact HB.out | apply below_alloc | apply pw_below_drewN | apply below_drew1 | refine below_set ?_ GE154.out | refine below_set ?_ GE164.out) | exact HB.out))); rintro e w31 ⟨rfl, hb⟩; have n0_ := am (Kd.R_below (by (with_reducible repeat (first | apply Kd.R_alloc | apply Kd.R_drewN | apply Kd.R_drew)); exact HO160.out) hb); have n1_ := am (Kd.R_below (by (with_reducible repeat (first | apply Kd.R_alloc | apply Kd.R_drewN | apply Kd.R_drew)); exact HO163.out) hb); have n2_ := am (blk_below (g := gb154) (o := .cells #[.int .i64 a0_0, .string a0_1, .slice A0_2 l0_2.length c0_2, .slice A0_3 l0_3.length c0_3] 25 (0, 0)) (by (with_reducible repeat (first | refine blk_drewN ?_ _ | refine blk_drew ?_ | refine blk_alloc ?_ _)); exact BK154.out) hb); have n3_ := am (blk_below (g := gb164) (o := .cells #[.int .i64 t156, .string t157, .slice Ao19 t158.length co19, .slice Ao20 t161.length co20] 25 (0, 0)) (by (with_reducible repeat (first | refine blk_drewN ?_ _ | refine blk_drew ?_ | refine blk_alloc ?_ _)); exact BK164.out) hb); have n4_ := am (below_step (by repeat (first | (with_reducible first | exact HB.out | apply below_alloc | apply pw_below_drewN | apply below_drew1 | refine below_set ?_ GE154.out | refine below_set ?_ GE164.out) | exact HB.out)) hb); clear HO160; clear HO163; clear BK154; clear BK164; clear HB; have HO160 := n0_; have HO163 := n1_; have BK154 := n2_; have BK164 := n3_; have HB := n4_; clear n0_ n1_ n2_ n3_ n4_; (try clear hb); (try clear hb2); (try clear hk); (try clear hi)))
     go_meet
     case rel => exact ⟨_, (!t170), (by first | rfl | (simp; done) | (simp [*]; done)), H', ⟨by first | omega | exact Nat.le_refl _⟩, ⟨by (with_reducible repeat (first | apply Kd.R_alloc | apply Kd.R_drewN | apply Kd.R_drew)); exact HO160.out⟩, ⟨by (with_reducible repeat (first | apply Kd.R_alloc | apply Kd.R_drewN | apply Kd.R_drew)); exact Kd.R_mono HO163.out (fun _ hk => ⟨hk.1.1, ⟨hk.1.2, hk.2⟩⟩)⟩, ⟨by (with_reducible repeat (first | refine blk_drewN ?_ _ | refine blk_drew ?_ | refine blk_alloc ?_ _)); exact BK154.out⟩, ⟨by (with_reducible repeat (first | refine blk_drewN ?_ _ | refine blk_drew ?_ | refine blk_alloc ?_ _)); exact BK164.out⟩, ⟨by repeat (first | (with_reducible first | exact HB.out | apply below_alloc | apply pw_below_drewN | apply below_drew1 | refine below_set ?_ GE154.out | refine below_set ?_ GE164.out) | exact HB.out)⟩⟩
    ·rw [if_neg c26] at H
     cases H
   ·rw [if_neg c25] at H
    cases H
  case rest =>
   clear HC10
   try clear c3
   try clear c25
   try clear c25b0
   try clear c25b1
   try clear c26
   try clear c26b0
   try clear c26b1
   try clear hcz12_0
   try clear hcz12_1
   try clear hcz12_2
   try clear hcz12_3
   try clear hcz14_0
   try clear hcz14_1
   try clear hcz14_2
   try clear hcz14_3
   try clear hcz18_0
   try clear hcz18_1
   try clear hcz18_2
   try clear hcz18_3
   try clear hcz22_0
   try clear hcz22_1
   try clear hcz22_2
   try clear hcz22_3
   try clear hcz29_0
   try clear hcz29_1
   try clear hcz29_2
   try clear hcz29_3
   try clear hcz30_0
   try clear hcz30_1
   try clear hcz30_2
   try clear hcz30_3
   try clear hcz5_0
   try clear hcz5_1
   try clear hcz5_2
   try clear hcz5_3
   try clear hfz12_0
   try clear hfz12_1
   try clear hfz12_2
   try clear hfz12_3
   try clear hfz14_0
   try clear hfz14_1
   try clear hfz14_2
   try clear hfz14_3
   try clear hfz18_0
   try clear hfz18_1
   try clear hfz18_2
   try clear hfz18_3
   try clear hfz22_0
   try clear hfz22_1
   try clear hfz22_2
   try clear hfz22_3
   try clear hfz29_0
   try clear hfz29_1
   try clear hfz29_2
   try clear hfz29_3
   try clear hfz30_0
   try clear hfz30_1
   try clear hfz30_2
   try clear hfz30_3
   try clear hfz5_0
   try clear hfz5_1
   try clear hfz5_2
   try clear hfz5_3
   obtain ⟨kq, x36_9, rfl, HA, HJ9, HO_165002, HO_165003, BK154, BK164, HB⟩ := hcut
   cases kq with
   | zero => exact absurd HA.out (by simp [wicketlaw04_JtextPrints.j0])
   | succ kj9 =>
    have H := HA.out
    clear HA
    simp only [wicketlaw04_JtextPrints.j0] at H
    by_cases c32 : x36_9 = true
    ·subst c32
     have H1 : none = some r := by rw [if_pos rfl] at H; exact H
     clear H
     have H := H1
     clear H1
     cases H
    ·replace c32 := Bool.eq_false_iff.mpr c32
     subst c32
     have H1 : ((jtext_Canon.f t156 t157 t158 t161).bind fun bt171 => ((wicketref04_Canon.f a0_0 a0_1 l0_2 l0_3).bind fun bt173 => ((wicketlaw04_live.f).bind fun t175 => (if t175 = true then ((wicketlaw04_num.f bt171.2).bind fun t176 => (if t176 = bt173.2 then (if bt171.1.toList = bt173.1.toList then ((wicketref04_Equal.f t156 t157 t158 t161 a0_0 a0_1 l0_2 l0_3).bind fun t177 => (some t177)) else none) else none)) else none)))) = some r := by rw [if_neg (show ¬ (false = true) by decide)] at H; exact H
     clear H
     have H := H1
     clear H1
     replace H := Option.bind_eq_some_iff.mp H
     obtain ⟨⟨t171, t172⟩, A330, H⟩ := H
     replace H : ((wicketref04_Canon.f a0_0 a0_1 l0_2 l0_3).bind fun bt173 => ((wicketlaw04_live.f).bind fun t175 => (if t175 = true then ((wicketlaw04_num.f t172).bind fun t176 => (if t176 = bt173.2 then (if t171.toList = bt173.1.toList then ((wicketref04_Equal.f t156 t157 t158 t161 a0_0 a0_1 l0_2 l0_3).bind fun t177 => (some t177)) else none) else none)) else none))) = some r := H
     have A33 := am A330
     clear A330
     replace H := Option.bind_eq_some_iff.mp H
     obtain ⟨⟨t173, t174⟩, A340, H⟩ := H
     replace H : ((wicketlaw04_live.f).bind fun t175 => (if t175 = true then ((wicketlaw04_num.f t172).bind fun t176 => (if t176 = t174 then (if t171.toList = t173.toList then ((wicketref04_Equal.f t156 t157 t158 t161 a0_0 a0_1 l0_2 l0_3).bind fun t177 => (some t177)) else none) else none)) else none)) = some r := H
     have A34 := am A340
     clear A340
     replace H := Option.bind_eq_some_iff.mp H
     obtain ⟨t175, A350, H⟩ := H
     replace H : (if t175 = true then ((wicketlaw04_num.f t172).bind fun t176 => (if t176 = t174 then (if t171.toList = t173.toList then ((wicketref04_Equal.f t156 t157 t158 t161 a0_0 a0_1 l0_2 l0_3).bind fun t177 => (some t177)) else none) else none)) else none) = some r := H
     have A35 := am A350
     clear A350
     by_cases c36 : t175 = true
     ·subst c36
      have H1 : ((wicketlaw04_num.f t172).bind fun t176 => (if t176 = t174 then (if t171.toList = t173.toList then ((wicketref04_Equal.f t156 t157 t158 t161 a0_0 a0_1 l0_2 l0_3).bind fun t177 => (some t177)) else none) else none)) = some r := by rw [if_pos rfl] at H; exact H
      clear H
      have H := H1
      clear H1
      replace H := Option.bind_eq_some_iff.mp H
      obtain ⟨t176, A370, H⟩ := H
      obtain rfl : t172 = t176 := Option.some.inj A370
      replace H : (if t172 = t174 then (if t171.toList = t173.toList then ((wicketref04_Equal.f t156 t157 t158 t161 a0_0 a0_1 l0_2 l0_3).bind fun t177 => (some t177)) else none) else none) = some r := H
      have A37 := am A370
      clear A370
      by_cases c38 : t172 = t174
      ·rw [if_pos c38] at H
       have c38b0 : (t172 == t174) = true := beq_iff_eq.mpr c38
       have c38b1 : (t172 != t174) = false := bne_eq_false_iff_eq.mpr c38
       clear c38
       by_cases c39 : t171.toList = t173.toList
       ·rw [if_pos c39] at H
        have c39b0 : (t171.toList == t173.toList) = true := beq_iff_eq.mpr c39
        have c39b1 : (t171.toList != t173.toList) = false := bne_eq_false_iff_eq.mpr c39
        clear c39
        replace H := Option.bind_eq_some_iff.mp H
        obtain ⟨t177, A400, H⟩ := H
        replace H : (some t177) = some r := H
        have A40 := am A400
        clear A400
        obtain rfl := Option.some.inj H
        have hnb41 := NB164_154.out
        have hnc41 := NB154_164.out
        have hcz42_0 : wc.cell? ⟨gb164, 0, none⟩ = some (.int .i64 t156) := (blk_cell BK164.out 0).trans rfl
        have hcz42_1 : wc.cell? ⟨gb164, 1, none⟩ = some (.string t157) := (blk_cell BK164.out 1).trans rfl
        have hcz42_2 : wc.cell? ⟨gb164, 2, none⟩ = some (.slice Ao19 t158.length co19) := (blk_cell BK164.out 2).trans rfl
        have hcz42_3 : wc.cell? ⟨gb164, 3, none⟩ = some (.slice Ao20 t161.length co20) := (blk_cell BK164.out 3).trans rfl
        have hfz42_0 := blk_frozen BK164.out 0
        have hfz42_1 := blk_frozen BK164.out 1
        have hfz42_2 := blk_frozen BK164.out 2
        have hfz42_3 := blk_frozen BK164.out 3
        go_wp2_with (first | ((with_reducible refine gate_callee (f := 20) rfl ?_); refine goesL_ (some 39) rfl rfl Tryd.func20 (by kernel_rfl) rfl #[.agg #[.int .i64 t156, .string t157, .slice Ao19 t158.length co19, .slice Ao20 t161.length co20]] rfl (by (try simp only [List.map_toArray, List.map_cons, List.map_nil]); first | done | rfl | (simp only [List.length_drop, List.length_take]; rfl)) ?_; (with_reducible refine (jtext_Canon.calls t156 t157 _ _ t158 _ _ t161 t171 t172 _ ?side1 ?side2 ?side3 ?side4 ?side5 A33.out).mono ?_); (case side1 => repeat (first | exact (Kd.R_reads' HO_165002.out).2.2 | (with_reducible refine Kd.C_alloc ?_ _) | (with_reducible refine Kd.C_drewN ?_ _) | (with_reducible refine Kd.C_drew ?_))); (case side2 => exact (Kd.R_reads' HO_165002.out).2.1); (case side3 => repeat (first | exact (Kd.R_reads' HO_165003.out).2.2 | (with_reducible refine Kd.C_alloc ?_ _) | (with_reducible refine Kd.C_drewN ?_ _) | (with_reducible refine Kd.C_drew ?_))); (case side4 => exact (Kd.R_reads' HO_165003.out).2.1); (case side5 => exact GL_below HG.out (by repeat (first | (with_reducible first | exact HB.out | apply below_alloc | apply pw_below_drewN | apply below_drew1 | refine below_set ?_ GE154.out | refine below_set ?_ GE164.out) | exact HB.out))); rintro e w43 ⟨rfl, hb⟩; refine ⟨_, rfl, ?_⟩; have n0_ := am (Kd.R_below (by (with_reducible repeat (first | apply Kd.R_alloc | apply Kd.R_drewN | apply Kd.R_drew)); exact HO_165002.out) hb); have n1_ := am (Kd.R_below (by (with_reducible repeat (first | apply Kd.R_alloc | apply Kd.R_drewN | apply Kd.R_drew)); exact HO_165003.out) hb); have n2_ := am (blk_below (g := gb154) (o := .cells #[.int .i64 a0_0, .string a0_1, .slice A0_2 l0_2.length c0_2, .slice A0_3 l0_3.length c0_3] 25 (0, 0)) (by (with_reducible repeat (first | refine blk_drewN ?_ _ | refine blk_drew ?_ | refine blk_alloc ?_ _)); exact BK154.out) hb); have n3_ := am (blk_below (g := gb164) (o := .cells #[.int .i64 t156, .string t157, .slice Ao19 t158.length co19, .slice Ao20 t161.length co20] 25 (0, 0)) (by (with_reducible repeat (first | refine blk_drewN ?_ _ | refine blk_drew ?_ | refine blk_alloc ?_ _)); exact BK164.out) hb); have n4_ := am (below_step (by repeat (first | (with_reducible first | exact HB.out | apply below_alloc | apply pw_below_drewN | apply below_drew1 | refine below_set ?_ GE154.out | refine below_set ?_ GE164.out) | exact HB.out)) hb); clear HO_165002; clear HO_165003; clear BK154; clear BK164; clear HB; have HO_165002 := n0_; have HO_165003 := n1_; have BK154 := n2_; have BK164 := n3_; have HB := n4_; clear n0_ n1_ n2_ n3_ n4_; (try clear hb); (try clear hb2); (try clear hk); (try clear hi); have hcz44_0 : w43.cell? ⟨gb154, 0, none⟩ = some (.int .i64 a0_0) := (blk_cell BK154.out 0).trans rfl; have hcz44_1 : w43.cell? ⟨gb154, 1, none⟩ = some (.string a0_1) := (blk_cell BK154.out 1).trans rfl; have hcz44_2 : w43.cell? ⟨gb154, 2, none⟩ = some (.slice A0_2 l0_2.length c0_2) := (blk_cell BK154.out 2).trans rfl; have hcz44_3 : w43.cell? ⟨gb154, 3, none⟩ = some (.slice A0_3 l0_3.length c0_3) := (blk_cell BK154.out 3).trans rfl; have hfz44_0 := blk_frozen BK154.out 0; have hfz44_1 := blk_frozen BK154.out 1; have hfz44_2 := blk_frozen BK154.out 2; have hfz44_3 := blk_frozen BK154.out 3) | ((with_reducible refine gate_callee (f := 21) rfl ?_); refine goesL_ (some 44) rfl rfl Tryd.func21 (by kernel_rfl) rfl #[.agg #[.int .i64 a0_0, .string a0_1, .slice A0_2 l0_2.length c0_2, .slice A0_3 l0_3.length c0_3]] rfl (by (try simp only [List.map_toArray, List.map_cons, List.map_nil]); first | done | rfl | (simp only [List.length_drop, List.length_take]; rfl)) ?_; (with_reducible refine (wicketref04_Canon.calls a0_0 a0_1 _ _ l0_2 _ _ l0_3 t173 t174 _ ?side1 ?side2 ?side3 ?side4 ?side5 A34.out).mono ?_); (case side1 => repeat (first | exact (Kd.C_below HR0_2.out HB.out) | (with_reducible refine Kd.C_alloc ?_ _) | (with_reducible refine Kd.C_drewN ?_ _) | (with_reducible refine Kd.C_drew ?_))); (case side2 => exact HC0_2.out); (case side3 => repeat (first | exact (Kd.C_below HR0_3.out HB.out) | (with_reducible refine Kd.C_alloc ?_ _) | (with_reducible refine Kd.C_drewN ?_ _) | (with_reducible refine Kd.C_drew ?_))); (case side4 => exact HC0_3.out); (case side5 => exact GL_below HG.out (by repeat (first | (with_reducible first | exact HB.out | apply below_alloc | apply pw_below_drewN | apply below_drew1 | refine below_set ?_ GE154.out | refine below_set ?_ GE164.out) | exact HB.out))); rintro e w45 ⟨rfl, hb⟩; refine ⟨_, rfl, ?_⟩; have n0_ := am (Kd.R_below (by (with_reducible repeat (first | apply Kd.R_alloc | apply Kd.R_drewN | apply Kd.R_drew)); exact HO_165002.out) hb); have n1_ := am (Kd.R_below (by (with_reducible repeat (first | apply Kd.R_alloc | apply Kd.R_drewN | apply Kd.R_drew)); exact HO_165003.out) hb); have n2_ := am (blk_below (g := gb154) (o := .cells #[.int .i64 a0_0, .string a0_1, .slice A0_2 l0_2.length c0_2, .slice A0_3 l0_3.length c0_3] 25 (0, 0)) (by (with_reducible repeat (first | refine blk_drewN ?_ _ | refine blk_drew ?_ | refine blk_alloc ?_ _)); exact BK154.out) hb); have n3_ := am (blk_below (g := gb164) (o := .cells #[.int .i64 t156, .string t157, .slice Ao19 t158.length co19, .slice Ao20 t161.length co20] 25 (0, 0)) (by (with_reducible repeat (first | refine blk_drewN ?_ _ | refine blk_drew ?_ | refine blk_alloc ?_ _)); exact BK164.out) hb); have n4_ := am (below_step (by repeat (first | (with_reducible first | exact HB.out | apply below_alloc | apply pw_below_drewN | apply below_drew1 | refine below_set ?_ GE154.out | refine below_set ?_ GE164.out) | exact HB.out)) hb); clear HO_165002; clear HO_165003; clear BK154; clear BK164; clear HB; have HO_165002 := n0_; have HO_165003 := n1_; have BK154 := n2_; have BK164 := n3_; have HB := n4_; clear n0_ n1_ n2_ n3_ n4_; (try clear hb); (try clear hb2); (try clear hk); (try clear hi)) | ((with_reducible refine gate_callee (f := 13) rfl ?_); refine goesL_ (some 47) rfl rfl Tryd.func13 (by kernel_rfl) rfl #[] rfl (by (try simp only [List.map_toArray, List.map_cons, List.map_nil]); first | done | rfl | (simp only [List.length_drop, List.length_take]; rfl)) ?_; (with_reducible refine (wicketlaw04_live.calls  true _ ?side1 A35.out).mono ?_); (case side1 => exact GL_below HG.out (by repeat (first | (with_reducible first | exact HB.out | apply below_alloc | apply pw_below_drewN | apply below_drew1 | refine below_set ?_ GE154.out | refine below_set ?_ GE164.out) | exact HB.out))); rintro e w46 ⟨rfl, hb⟩; refine ⟨_, rfl, ?_⟩; have n0_ := am (Kd.R_below (by (with_reducible repeat (first | apply Kd.R_alloc | apply Kd.R_drewN | apply Kd.R_drew)); exact HO_165002.out) hb); have n1_ := am (Kd.R_below (by (with_reducible repeat (first | apply Kd.R_alloc | apply Kd.R_drewN | apply Kd.R_drew)); exact HO_165003.out) hb); have n2_ := am (blk_below (g := gb154) (o := .cells #[.int .i64 a0_0, .string a0_1, .slice A0_2 l0_2.length c0_2, .slice A0_3 l0_3.length c0_3] 25 (0, 0)) (by (with_reducible repeat (first | refine blk_drewN ?_ _ | refine blk_drew ?_ | refine blk_alloc ?_ _)); exact BK154.out) hb); have n3_ := am (blk_below (g := gb164) (o := .cells #[.int .i64 t156, .string t157, .slice Ao19 t158.length co19, .slice Ao20 t161.length co20] 25 (0, 0)) (by (with_reducible repeat (first | refine blk_drewN ?_ _ | refine blk_drew ?_ | refine blk_alloc ?_ _)); exact BK164.out) hb); have n4_ := am (below_step (by repeat (first | (with_reducible first | exact HB.out | apply below_alloc | apply pw_below_drewN | apply below_drew1 | refine below_set ?_ GE154.out | refine below_set ?_ GE164.out) | exact HB.out)) hb); clear HO_165002; clear HO_165003; clear BK154; clear BK164; clear HB; have HO_165002 := n0_; have HO_165003 := n1_; have BK154 := n2_; have BK164 := n3_; have HB := n4_; clear n0_ n1_ n2_ n3_ n4_; (try clear hb); (try clear hb2); (try clear hk); (try clear hi)) | (go_at_call 14; (with_reducible refine (wicketlaw04_num.calls t172 t172 _ A37.out).mono ?_); rintro e w' ⟨rfl, ⟨nd, rfl⟩⟩; have hcz47_0 : w46.cell? ⟨gb164, 0, none⟩ = some (.int .i64 t156) := (blk_cell BK164.out 0).trans rfl; have hcz47_1 : w46.cell? ⟨gb164, 1, none⟩ = some (.string t157) := (blk_cell BK164.out 1).trans rfl; have hcz47_2 : w46.cell? ⟨gb164, 2, none⟩ = some (.slice Ao19 t158.length co19) := (blk_cell BK164.out 2).trans rfl; have hcz47_3 : w46.cell? ⟨gb164, 3, none⟩ = some (.slice Ao20 t161.length co20) := (blk_cell BK164.out 3).trans rfl; have hfz47_0 := blk_frozen BK164.out 0; have hfz47_1 := blk_frozen BK164.out 1; have hfz47_2 := blk_frozen BK164.out 2; have hfz47_3 := blk_frozen BK164.out 3; have hcz48_0 : w46.cell? ⟨gb154, 0, none⟩ = some (.int .i64 a0_0) := (blk_cell BK154.out 0).trans rfl; have hcz48_1 : w46.cell? ⟨gb154, 1, none⟩ = some (.string a0_1) := (blk_cell BK154.out 1).trans rfl; have hcz48_2 : w46.cell? ⟨gb154, 2, none⟩ = some (.slice A0_2 l0_2.length c0_2) := (blk_cell BK154.out 2).trans rfl; have hcz48_3 : w46.cell? ⟨gb154, 3, none⟩ = some (.slice A0_3 l0_3.length c0_3) := (blk_cell BK154.out 3).trans rfl; have hfz48_0 := blk_frozen BK154.out 0; have hfz48_1 := blk_frozen BK154.out 1; have hfz48_2 := blk_frozen BK154.out 2; have hfz48_3 := blk_frozen BK154.out 3) | (go_at_call 15; (with_reducible refine (wicketref04_Equal.calls t156 t157 _ _ t158 _ _ t161 a0_0 a0_1 _ _ l0_2 _ _ l0_3 t177 _ ?side1 ?side2 ?side3 ?side4 ?side5 ?side6 ?side7 ?side8 ?side9 A40.out).mono ?_); (case side1 => repeat (first | exact (Kd.R_reads' HO_165002.out).2.2 | (with_reducible refine Kd.C_alloc ?_ _) | (with_reducible refine Kd.C_drewN ?_ _) | (with_reducible refine Kd.C_drew ?_))); (case side2 => exact (Kd.R_reads' HO_165002.out).2.1); (case side3 => repeat (first | exact (Kd.R_reads' HO_165003.out).2.2 | (with_reducible refine Kd.C_alloc ?_ _) | (with_reducible refine Kd.C_drewN ?_ _) | (with_reducible refine Kd.C_drew ?_))); (case side4 => exact (Kd.R_reads' HO_165003.out).2.1); (case side5 => repeat (first | exact (Kd.C_below HR0_2.out (by repeat (first | (with_reducible first | exact HB.out | apply below_alloc | apply pw_below_drewN | apply below_drew1 | refine below_set ?_ GE154.out | refine below_set ?_ GE164.out) | exact HB.out))) | (with_reducible refine Kd.C_alloc ?_ _) | (with_reducible refine Kd.C_drewN ?_ _) | (with_reducible refine Kd.C_drew ?_))); (case side6 => exact HC0_2.out); (case side7 => repeat (first | exact (Kd.C_below HR0_3.out (by repeat (first | (with_reducible first | exact HB.out | apply below_alloc | apply pw_below_drewN | apply below_drew1 | refine below_set ?_ GE154.out | refine below_set ?_ GE164.out) | exact HB.out))) | (with_reducible refine Kd.C_alloc ?_ _) | (with_reducible refine Kd.C_drewN ?_ _) | (with_reducible refine Kd.C_drew ?_))); (case side8 => exact HC0_3.out); (case side9 => exact GL_below HG.out (by repeat (first | (with_reducible first | exact HB.out | apply below_alloc | apply pw_below_drewN | apply below_drew1 | refine below_set ?_ GE154.out | refine below_set ?_ GE164.out) | exact HB.out))); rintro e w49 ⟨rfl, hb⟩; have n0_ := am (Kd.R_below (by (with_reducible repeat (first | apply Kd.R_alloc | apply Kd.R_drewN | apply Kd.R_drew)); exact HO_165002.out) hb); have n1_ := am (Kd.R_below (by (with_reducible repeat (first | apply Kd.R_alloc | apply Kd.R_drewN | apply Kd.R_drew)); exact HO_165003.out) hb); have n2_ := am (blk_below (g := gb154) (o := .cells #[.int .i64 a0_0, .string a0_1, .slice A0_2 l0_2.length c0_2, .slice A0_3 l0_3.length c0_3] 25 (0, 0)) (by (with_reducible repeat (first | refine blk_drewN ?_ _ | refine blk_drew ?_ | refine blk_alloc ?_ _)); exact BK154.out) hb); have n3_ := am (blk_below (g := gb164) (o := .cells #[.int .i64 t156, .string t157, .slice Ao19 t158.length co19, .slice Ao20 t161.length co20] 25 (0, 0)) (by (with_reducible repeat (first | refine blk_drewN ?_ _ | refine blk_drew ?_ | refine blk_alloc ?_ _)); exact BK164.out) hb); have n4_ := am (below_step (by repeat (first | (with_reducible first | exact HB.out | apply below_alloc | apply pw_below_drewN | apply below_drew1 | refine below_set ?_ GE154.out | refine below_set ?_ GE164.out) | exact HB.out)) hb); clear HO_165002; clear HO_165003; clear BK154; clear BK164; clear HB; have HO_165002 := n0_; have HO_165003 := n1_; have BK154 := n2_; have BK164 := n3_; have HB := n4_; clear n0_ n1_ n2_ n3_ n4_; (try clear hb); (try clear hb2); (try clear hk); (try clear hi)))
        go_ret
        exact ⟨by first | rfl | (simp [errW_none, errW_some] <;> rfl) | (simp [*, errW_none, errW_some] <;> rfl), by repeat (first | (with_reducible first | exact HB.out | apply below_alloc | apply pw_below_drewN | apply below_drew1 | refine below_set ?_ GE154.out | refine below_set ?_ GE164.out) | exact HB.out)⟩
       ·rw [if_neg c39] at H
        cases H
      ·rw [if_neg c38] at H
       cases H
     ·replace c36 := Bool.eq_false_iff.mpr c36
      subst c36
      have H1 : none = some r := by rw [if_neg (show ¬ (false = true) by decide)] at H; exact H
      clear H
      have H := H1
      clear H1
      cases H
end Go.Proofs.YtaalajhmfdcalaaDoor.X
namespace Go.Proofs.YtaalajhmfdcalaaDoor.X
open Go.RowKit Go.Lib Go.Proofs.YtaalajhmfdcalaaDoorW.PrintWords
theorem bdB_mk {B L B' L' : Nat} (hB : B ≤ B') (hL : L ≤ L') {v : J} (h : Bd B L v) : bdB B' L' v = true := by
 induction h with
 | mk f0 f1 f2 f3 h0 h1 h2 h3 _ ih =>
  unfold bdB
  simp only [Bool.and_eq_true, decide_eq_true_eq, List.all_eq_true, List.mem_attach, forall_const, Subtype.forall]
  exact ⟨by omega, fun s hs => Nat.le_trans (h1 s hs) hB, by omega, by omega, fun y hy => ih y hy⟩
theorem rprint_f_ok {B : Nat} (hB : B ≤ 288230376151711743) {v : J} (h : Bd B 10000 v) : wicketref04_Print.f v.f0 v.f1 v.f2 v.f3 = some (printB v, ((printS v).e : Int)) := by
 unfold wicketref04_Print.f
 rw [eta_J, if_pos (smB_of hB 32 h)]
theorem rcanon_f_ok {B : Nat} (hB : B ≤ 288230376151711743) {v : J} (h : Bd B 10000 v) : wicketref04_Canon.f v.f0 v.f1 v.f2 v.f3 = some (canonB v, ((printS v).e : Int)) := by
 unfold wicketref04_Canon.f rcanOK
 rw [eta_J, if_pos (by rw [smB_of hB 32 h, bdB_mk (by omega) (Nat.le_refl _) h]; rfl)]
theorem requal_f_ok {B : Nat} (hB : B ≤ 288230376151711743) {v : J} (h : Bd B 10000 v) : wicketref04_Equal.f v.f0 v.f1 v.f2 v.f3 v.f0 v.f1 v.f2 v.f3 = some true := by
 unfold wicketref04_Equal.f eqT
 rw [eta_J, bdB_mk (by omega) (Nat.le_refl _) h, eqJ_self h]
 rfl
theorem prints_law {B L : Nat} (hB : B ≤ 288230376151711743) (hL : L ≤ 281474976710656) {v : J} (h : Bd B L v) : ∃ k, wicketlaw04_JtextPrints.f k v.f0 v.f1 v.f2 v.f3 = some true := by
 obtain ⟨K, hK⟩ := large_of hL h
 rcases hK with hK | ⟨hK, hv⟩
 ·refine ⟨K, ?_⟩
  unfold wicketlaw04_JtextPrints.f
  rw [hK _ (Nat.le_refl _)]
  simp only [Option.bind_some, if_true]
 ·obtain ⟨T1, t1⟩ := twin_self (by decide) hv
  have q1 := requal_f_ok hB hv
  refine ⟨max K T1 + 1, ?_⟩
  have hnum : ∀ x : Int, wicketlaw04_num.f x = some x := fun _ => rfl
  unfold wicketlaw04_JtextPrints.f
  rw [hK _ (by omega)]
  simp only [Option.bind_some]
  rw [if_neg (by decide), t1 _ (by omega)]
  simp only [Option.bind_some]
  rw [print_f_ok hB hv, rprint_f_ok hB hv]
  simp only [Option.bind_some]
  rw [hnum]
  simp only [Option.bind_some, if_true]
  rw [q1]
  simp only [Option.bind_some]
  rw [wicketlaw04_JtextPrints.j0, if_neg (by decide), canon_f_ok hB hv, rcanon_f_ok hB hv]
  simp only [Option.bind_some]
  rw [live_true]
  simp only [Option.bind_some, if_true]
  rw [hnum]
  simp only [Option.bind_some, if_true]
  rw [q1]
  rfl
theorem prints_walk (j : J) (A2 A3 : Option Addr) (c2 c3 : Nat) (W : World) (h2 : Kd.C Kd.string W A2 j.f2.length j.f2) (hc2 : j.f2.length ≤ c2) (h3 : Kd.C k25 W A3 j.f3.length j.f3) (hc3 : j.f3.length ≤ c3) (hG : GL W) (hB : Bd lim limL j) :
  Calls Tryd.prog 6 #[.agg #[.int .i64 j.f0, .string j.f1, .slice A2 j.f2.length c2, .slice A3 j.f3.length c3]] W fun e w' => e = .returned (.bool true) ∧ Below W.heap.size W w' := by
 obtain ⟨k, hk⟩ := prints_law (by decide) (by decide) hB
 exact wicketlaw04_JtextPrints.calls k j.f0 j.f1 A2 c2 j.f2 A3 c3 j.f3 true W h2 hc2 h3 hc3 hG hk
end Go.Proofs.YtaalajhmfdcalaaDoor.X
namespace Go.Proofs.YtaalajhmfdcalaaDoor.X
open Go.RowKit Go.Lib
set_option maxRecDepth 100000 in
theorem first_eq : Rows.laid_unicode_utf8_first = firstData := by kernel_rfl
set_option maxRecDepth 100000 in
theorem accept_eq : (Rows.laid_unicode_utf8_acceptRanges : DataW Unit) = acceptData := by kernel_rfl
theorem words_of {W : World} (h : VarReads Tryd.prog W "wicket/jtext.words" Rows.laid_wicket_jtext_words) : GLw W := by
 obtain ⟨g, t, cs, fuel, p, hg, hty, hvar, hd⟩ := h
 obtain rfl : 0 = g := Option.some.inj ((show Tryd.prog.globalNamed "wicket/jtext.words" = some 0 by kernel_rfl).symm.trans hg)
 obtain rfl : 104 = t := Option.some.inj ((show (Tryd.prog.globals[0]?).map (·.type) = some 104 by kernel_rfl).symm.trans hty)
 have key : ∀ (i : Nat), i < 3 → ∀ l : List UInt8, (([.lit (.string [110, 117, 108, 108]), .lit (.string [102, 97, 108, 115, 101]), .lit (.string [116, 114, 117, 101])] : List (DataW Unit))[i]? = some (.lit (.string l))) → W.cell? ⟨0, i, none⟩ = some (.string ⟨l.toArray⟩) := by
  intro i hi l hl
  obtain ⟨fuel', d, q, hdi, he⟩ := array_elem Tryd.underlying104 hd i hi
  rw [hl] at hdi
  injection hdi with hdi
  subst hdi
  rw [show Tryd.prog.cellsOf 9 = 1 by kernel_rfl] at he
  obtain ⟨s, hcs, hs, _⟩ := DataW.trod_string Tryd.underlying9 he
  injection hs with hs _
  injection hs with hs
  injection hs with hs
  have e0 := congrArg (·[0]?) hcs
  simp only [List.getElem?_take, List.getElem?_drop] at e0
  rw [World.var?_cell hg hvar i, ← Array.getElem?_toList]
  have e1 : s = ⟨l.toArray⟩ := by
   apply ByteArray.ext
   apply Array.ext'
   rw [hs]
  rw [← e1]
  simpa using e0
 exact ⟨key 0 (by omega) _ rfl, key 1 (by omega) _ rfl, key 2 (by omega) _ rfl⟩
theorem GL_of {W : World} (hL : laidMetH Tryd.prog Rows.jtextFirstRow.laid W) : GL W := by
 rw [MakeChecks.laidMetH_plain _ _ _ (by kernel_rfl)] at hL
 have h1 := laidMet.reads hL (n := "unicode/utf8.acceptRanges") (d := Rows.laid_unicode_utf8_acceptRanges) (.head _)
 have h2 := laidMet.reads hL (n := "wicket/jtext.words") (d := Rows.laid_wicket_jtext_words) (.tail _ (.head _))
 have h3 := laidMet.reads hL (n := "unicode/utf8.first") (d := Rows.laid_unicode_utf8_first) (.tail _ (.tail _ (.head _)))
 rw [first_eq] at h3
 rw [accept_eq] at h1
 exact ⟨words_of h2, utf8Tabs_of_readsT (U8Types.of196 Tryd.lays196) ⟨by kernel_rfl, by kernel_rfl, by kernel_rfl, by kernel_rfl, by kernel_rfl, by kernel_rfl, by kernel_rfl⟩ h3 h1⟩
end Go.Proofs.YtaalajhmfdcalaaDoor.X
namespace Go.Proofs.YtaalajhmfdcalaaDoor.jtextPrints
open Go.ChangeShapes Go.WideShapes Go.ChangeAt Go.RowKit
open Go.ChangeMaps (open_string shut_string)
theorem own : ownKnob Tryd.prog.godebug = none := by kernel_rfl
theorem laidOut : laidOutB Tryd.prog = true := by kernel_rfl
set_option maxRecDepth 100000 in
theorem contract (H : Type) (enc : TypeId × Value → H) (W : World) (base : Nat) (args : Array Value) (ds gs : List (DataW H)) (before : List MemPlace)
  (hval0 : ∀ (j : Nat) t v, Tryd.f6.params[j]? = some t → args[j]? = some v → Value.okWide Tryd.prog W .any base t v)
  (hW : DataW.Whole enc Tryd.prog Tryd.f6.params.toList Rows.jtextPrintsSpec.vars false W args.toList ds gs before)
  (hsz0 : (DataW.weightsEach Tryd.prog (Tryd.f6.params.toList ++ Rows.jtextPrintsSpec.plain.varTypes Tryd.prog) (ds ++ gs)).all (· ≤ reachBytes) = true) (hG : X.GL W) :
  Calls Tryd.prog 6 args W fun e W' => ∃ v, e = .returned v ∧ Rows.jtextPrintsSpec.post enc Tryd.prog Tryd.f6 false true false false W args v W' := by
 have hval := hval0
 have hsz := hsz0
 have hW' := hW
 obtain ⟨p, q, hA0, hV, rfl, hfz, hnd⟩ := hW
 have hA : DataW.TrodAll enc Tryd.prog W 0 (fun _ => true) true Tryd.f6.params.toList args.toList ds p := hA0
 rw [Tryd.params6] at hA hval hsz
 obtain ⟨v0, vs0, d0, ds0, p0, q0, hargs, rfl, rfl, h0, r0⟩ := trodAll_cons hA
 obtain ⟨rfl, rfl, rfl⟩ := trodAll_nil r0
 obtain rfl : args = #[v0] := by cases args; simp_all
 obtain ⟨rfl, rfl⟩ := trodVars_none hV
 have k0 := h0
 have lt0 : ∀ x ∈ p0, x.block < W.heap.size := by obtain ⟨m, hm⟩ := k0; exact DataW.trod_lt m _ _ _ hm
 have sz0 : ∀ k ∈ d0.weights Tryd.prog 25, k ≤ X.lim := fun k hk => of_decide_eq_true (List.all_eq_true.1 hsz k (DataW.weights_mem_each (j := 0) (t := 25) rfl rfl k hk))
 obtain ⟨j0, A2_0, A3_0, c2_0, c3_0, rfl, hc2_0, hk2_0, hc3_0, hk3_0, hB0⟩ := X.open_json (hval 0 25 v0 rfl rfl) h0 sz0
 clear hA0 hval0 hsz0 hsz
 refine (X.prints_walk j0 A2_0 A3_0 c2_0 c3_0 W hk2_0 hc2_0 hk3_0 hc3_0 hG hB0).mono fun e W' ⟨he, bel⟩ => ?_
 subst he
 exact ⟨_, rfl, _, _, _, [], _, [], hW', trodAll_mk1 (shut_bool Tryd.underlying4 _), (trodAll_cons_mk (Below.trod laidOut (by kernel_rfl) (of_decide_eq_true (by kernel_rfl)) k0 bel lt0) trodAll_mk0), rfl, bel.frame _, fun h => by cases h⟩
theorem lay_met (os : Os) : laidMetH Tryd.prog Rows.jtextPrintsRow.laid ((World.laidAll Tryd.prog os Rows.jtextPrintsRow.laid).forCall (fun _ _ => 0) ⟨#[], #[.agg #[.int .i64 0, .string ⟨#[]⟩, .slice none 0 0, .slice none 0 0]], []⟩).memory := by
 rw [MakeChecks.laidMetH_plain _ _ _ (by kernel_rfl)]
 exact laidMet_laidAll _ (by kernel_rfl) (by kernel_rfl)
theorem reads (os : Os) {H : Type} (enc : TypeId × Value → H) : ∃ places, DataW.whole enc Tryd.prog ((World.laidAll Tryd.prog os Rows.jtextPrintsRow.laid).forCall (fun _ _ => 0) ⟨#[], #[.agg #[.int .i64 0, .string ⟨#[]⟩, .slice none 0 0, .slice none 0 0]], []⟩).memory Tryd.f6.params.toList Rows.jtextPrintsSpec.vars false (#[.agg #[.int .i64 0, .string ⟨#[]⟩, .slice none 0 0, .slice none 0 0]] : Array Value).toList 8 = some ([.agg [.lit (.int .i64 0), .lit (.string []), .nil, .nil]], [], places) := ⟨[], by kernel_rfl⟩
set_option maxRecDepth 100000 in
theorem lifted (os : Os) (started : os.Started) (H : Type) (enc : TypeId × Value → H) (F : Stop.Interp) :
  ReturnsInHanded {} Tryd.checked os 6 .any ((OpenSpec.ofChange Rows.jtextPrintsSpec).preRow enc Tryd.prog Tryd.f6 Rows.jtextPrintsRow.domain false Rows.jtextPrintsRow.laid) (((OpenSpec.ofChange Rows.jtextPrintsSpec).at F).post enc Tryd.prog Tryd.f6 false true false false) := by
 obtain ⟨places, hx⟩ := reads os enc
 refine returnsInHanded_of_row (C := Tryd.checked) (s := OpenSpec.ofChange Rows.jtextPrintsSpec) own started (by kernel_rfl) Tryd.func6
  (witness_row_atRef (enc := enc) (C := Tryd.checked) false (World.laidAll Tryd.prog os Rows.jtextPrintsRow.laid) #[.agg #[.int .i64 0, .string ⟨#[]⟩, .slice none 0 0, .slice none 0 0]] (World.laidAll_os _ _ _) (by kernel_rfl) (by kernel_rfl) (by kernel_rfl)
   (OpenSpec.preRow_of_cond 8 hx (by kernel_rfl) (fun k hk => by cases hk) (by kernel_rfl) (lay_met os))) ?_
 intro W base args ds gs before hval hW _ _ hsz hL hS _
 exact contract H enc W base args ds gs before hval hW hsz (X.GL_of hL)
theorem said : Rows.JtextPrintsSaid :=
 OpenClaim.holds_of_cond 6 Tryd.f6 rfl rfl rfl rfl rfl rfl rfl ⟨rfl, rfl, rfl, rfl, rfl⟩ rfl rfl rfl rfl rfl (by kernel_rfl) Tryd.func6 (by kernel_rfl)
  (of_decide_eq_true (by kernel_rfl)) (by unfold Func.isWrapper; first | (rw [if_pos (by decide +kernel)]; kernel_rfl) | (rw [if_neg (by decide +kernel)]; exact ⟨rfl, rfl⟩))
  (fun os started H enc _ F => by rw [OpenClaim.pre_eq_preRow]; exact lifted os started H enc F)
theorem plain (f : FuncId) (fn : Func) (hf : Tryd.pinned.checked.prog.funcNamed "wicket/wicketlaw04.JtextPrints" = some f) (hfn : Tryd.pinned.checked.prog.funcs[f]? = some fn) :
  true = Tryd.pinned.checked.prog.looks [] ∧ ∀ (j : Nat) t, fn.params[j]? = some t → Tryd.pinned.checked.prog.wantsStandIn t = false := by
 obtain rfl : f = 6 := Option.some.inj ((show Tryd.prog.funcNamed "wicket/wicketlaw04.JtextPrints" = some 6 by kernel_rfl).symm.trans hf) |>.symm
 obtain rfl : fn = Tryd.f6 := (Option.some.inj (Tryd.func6.symm.trans hfn)).symm
 refine ⟨by kernel_rfl, fun j t ht => ?_⟩
 rw [Tryd.params6] at ht
 have hm := Array.mem_of_getElem? ht
 simp only [List.mem_toArray, List.mem_cons, List.not_mem_nil, or_false] at hm
 subst hm
 exact (show Tryd.prog.wantsStandIn 25 = false by kernel_rfl)
theorem card : Rows.JtextPrintsCardSaid :=
 Claim7.holds_tied_plain_at .later [] _ _ _ _ said (fun _ h => by cases h) (by kernel_rfl) (fun _ h => by cases h) jtextPrints_row_tie rfl ⟨rfl, rfl⟩ (by kernel_rfl) rfl plain (by kernel_rfl)
#print axioms card
end Go.Proofs.YtaalajhmfdcalaaDoor.jtextPrints
