/- The texts of this work, put together: K75, K76, K77, K78, K79, K80, K81, N66, K82, K83, E6, L0, XE. -/
import Derived.Test.YtaalajhmfdcalaaDoorBp2
import Derived.Test.YtaalajhmfdcalaaDoorBp1
import Derived.Test.YtaalajhmfdcalaaDoorBp0
import Derived.Test.YtaalajhmfdcalaaDoorWb
import Derived.Test.YtaalajhmfdcalaaDoorWc
set_option linter.unusedVariables false
set_option linter.unusedSimpArgs false
namespace Go.Proofs.YtaalajhmfdcalaaDoor.X
open Go.RowKit Go.Lib Go.Proofs.YtaalajhmfdcalaaDoorW.PrintWords Go.Proofs.YtaalajhmfdcalaaDoorW.PrintLast Go.Proofs.YtaalajhmfdcalaaDoorW.PrintMore
def VALC (s : ByteArray) (k r : Nat) (d : Int) : Prop := ∀ q o, q ≤ s.size → valueF s.data.toList k r q = some o → ∀ W, Calls Tryd.prog 30 #[.string s, .int .i64 (q : Int), .int .i64 d] W (GotE o W)
theorem oneI_err {v : Nat → Option (Out J)} {a : List J} {q e p : Nat} (h : oneI v a q = some (.err e p)) : v q = some (.err e p) := by
  unfold oneI at h
  cases hv : v q with
  | none => rw [hv] at h; cases h
  | some o =>
    rw [hv] at h
    cases o with
    | err e' p' => simpa [Out.map] using h
    | val j q' => simp [Out.map] at h
theorem oneI_some {v : Nat → Option (Out J)} {a a' : List J} {q q1 : Nat} (h : oneI v a q = some (.val a' q1)) : ∃ j, v q = some (.val j q1) ∧ a' = a ++ [j] := by
  unfold oneI at h
  cases hv : v q with
  | none => rw [hv] at h; cases h
  | some o =>
    rw [hv] at h
    cases o with
    | err e' p' => simp [Out.map] at h
    | val j q' =>
      simp only [Option.map_some, Out.map, Option.some.injEq, Out.val.injEq] at h
      exact ⟨j, by rw [h.2], h.1.symm⟩
theorem wr1 (b n : Nat) (h : b < n) (hn : n ≤ 4611686018427387904) : wrap64 ((b : Int) + 1) = (b : Int) + 1 := by unfold wrap64; omega
theorem wr5 (b : Nat) (hn : b ≤ 4611686018427387904) : wrap64 (b : Int) = (b : Int) := by unfold wrap64; omega
theorem cast1 (b : Nat) : (b : Int) + 1 = ((b + 1 : Nat) : Int) := by omega
theorem valueF_none {s : List UInt8} {k r p : Nat} (h : s[p]? = none) : valueF s k r p = some (.err 3 s.length) := by
  cases r <;> (unfold valueF; rw [h])
set_option maxRecDepth 1000000 in
set_option maxHeartbeats 16000000 in
theorem ritems_list (s : ByteArray) (k r p : Nat) (d : Int) (W : World) (hs : s.size ≤ 4611686018427387904) (hs2 : s.size ≤ 1000000) (hd0 : 0 ≤ d) (hd1 : d ≤ 31) (hp : p < s.size) (hV : VALC s (k + 1) r (d + 1)) (o : Out (List J)) (ho : sevF (oneI (valueF s.data.toList (k + 1) r)) s.data.toList 93 (k + 1) [] p = some o) :
    Calls Tryd.prog 49 #[.string s, .int .i64 (p : Int), .int .i64 d, .agg #[.int .i64 5, .string ⟨#[]⟩, .slice none 0 0, .slice none 0 0], .int .u8 93] W (GotE (o.map fun a => ⟨5, ⟨#[]⟩, [], a⟩) W) := by
  have hsz : s.data.toList.length = s.size := size_data s
  have hq0 := blanks_le s.data.toList (p + 1) (by rw [size_data]; omega)
  rw [size_data] at hq0
  have HSS := Aside0.mk hsz
  have HVV := Aside0.mk hV
  clear hsz hV
  have HP1 := Aside0.mk (show p + 1 ≤ 4611686018427387904 by omega)
  have w3p := cast1 p
  have hp1 := HP1.out
  have HI0 := Aside0.mk (ISt.start W 5)
  have x0 := HI0.out.cell 0 _ rfl
  have x1 := HI0.out.cell 1 _ rfl
  have x2 := HI0.out.cell 2 _ rfl
  have x3 := HI0.out.cell 3 _ rfl
  obtain ⟨z0, z1, z2, z3, z4, z5, z6⟩ := got_cells HI0.out.res
  obtain ⟨g0, g1, g2, g3, g4, g5, g6⟩ := got_thaw HI0.out.res
  rcases sevF_in ho (fun hn => by unfold oneI; rw [valueF_none hn]; rfl) with ⟨hc, hoe⟩ | ⟨hc, hL⟩
  · obtain ⟨hlt, hcb⟩ := List.getElem?_eq_some_iff.1 hc
    rw [size_data] at hlt
    have HOE := Aside0.mk hoe
    clear ho hc hoe
    generalize hbe : blanksF s.data.toList (p + 1) = bq at *
    have HBE := Aside0.mk hbe
    clear hbe
    generalize p + 1 = p1 at *
    have hx : ∀ h : bq < s.size, s[bq]'h = 93 := fun h => hcb
    have h3 : decide (bq < s.size) = true := decide_eq_true hlt
    have p4 : ((bq : Int) < (s.size : Int)) = True := eq_true (by omega)
    have p3 : (0 ≤ (bq : Int)) = True := eq_true (by omega)
    clear hcb
    go_enter Tryd.func49, Tryd.ntmps49
    go_wp2_with (go_at_call 31; (with_reducible refine (rblanks_calls s p1 _ hs HP1.out).mono ?_); rintro e w5 ⟨rfl, rfl⟩; rw [HBE.out])
    refine bodyPost_ret (results_cell_row rfl _ _ (W.heap.size + 1) 53 #[.int .i64 5, .string (⟨#[]⟩ : ByteArray), .slice none 0 0, .slice none 0 0, .int .i64 ((bq : Int) + 1), .int .i64 0, .int .i64 0] (0, 0) _ rfl (heap_alloc2_new W _ _) Tryd.underlying53 rfl (by kernel_rfl)) rfl ?_
    rw [HOE.out]
    show GotV _ _ _ _ _ _ _ _ _ _
    rw [show ((bq + 1 : Nat) : Int) = (bq : Int) + 1 by omega]
    exact ⟨none, 0, none, 0, rfl, Kd.R_nil _ _ _ _ _, Kd.R_nil _ _ _ _ _, below_alloc (below_alloc (Below.refl _ _) _) _⟩
  · have HL0 := Aside0.mk hL
    clear ho hL
    generalize hbe : blanksF s.data.toList (p + 1) = b0 at *
    have HBE := Aside0.mk hbe
    clear hbe
    generalize p + 1 = p1 at *
    go_enter Tryd.func49, Tryd.ntmps49
    by_cases hlt0 : b0 < s.size
    case' pos =>
      obtain ⟨u, hu, hx⟩ := drop_at s b0 hlt0
      have hu' := at_drop hu
      have e5 : ((u.toNat : Int) == 93) = false := beq_eq_false_iff_ne.mpr (fun hh => hc (by rw [hu', (u8_eq u 93).2 hh]))
      have h3 : decide (b0 < s.size) = true := decide_eq_true hlt0
      have p4 : ((b0 : Int) < (s.size : Int)) = True := eq_true (by omega)
      have p3 : (0 ≤ (b0 : Int)) = True := eq_true (by omega)
      clear hc hu hu'
      go_wp2_with (go_at_call 31; (with_reducible refine (rblanks_calls s p1 _ hs HP1.out).mono ?_); rintro e w5 ⟨rfl, rfl⟩; rw [HBE.out])
      clear hx e5 h3 p4 p3 hlt0
    case' neg =>
      have h3 : decide (b0 < s.size) = false := decide_eq_false hlt0
      have p4 : ((b0 : Int) < (s.size : Int)) = False := eq_false (by omega)
      clear hc
      go_wp2_with (go_at_call 31; (with_reducible refine (rblanks_calls s p1 _ hs HP1.out).mono ?_); rintro e w5 ⟨rfl, rfl⟩; rw [HBE.out])
      clear h3 p4 hlt0
    all_goals (
      clear x0 x1 x2 x3 z0 z1 z2 z3 z4 z5 z6 g0 g1 g2 g3 g4 g5 g6 w3p hp1
      go_loopg [11] (k + 1) (fun g v11 wr => ∃ (ys : List J) (at_ : Nat) (Av : Option Addr) (nv cv : Nat), v11 = .int .i64 (at_ : Int) ∧ at_ ≤ s.size ∧ ys.length ≤ at_ ∧ Aside0 (ISt W wr 5 [] ys (.slice none 0 0) (.slice Av nv cv)) ∧ Aside0 (sevL (oneI (valueF s.data.toList (k + 1) r)) s.data.toList 93 g ys at_ = some o))
      case atStart => exact ⟨[], b0, none, 0, 0, rfl, hq0, Nat.zero_le _, HI0, HL0⟩
      case round =>
        obtain ⟨ys, at_, Av, nv, cv, rfl, hat, hyl, HI, HLL0⟩ := hrel
        clear HI0 HL0 HBE hq0
        cases gk with
        | zero => exact absurd HLL0.out (by simp [sevL])
        | succ g =>
          have x0 := HI.out.cell 0 _ rfl
          rcases sevL_item _ _ _ _ _ _ _ HLL0.out with ⟨er, pp, hone, hoe⟩ | ⟨a', q1, hone, hT⟩
          · have HVC := Aside0.mk (HVV.out at_ _ hat (oneI_err hone))
            have HOE := Aside0.mk hoe
            have HBIG := Aside0.mk (show W.heap.size + 1 < wr.heap.size by have := HI.out.big; omega)
            clear hone hoe
            go_wp2_with (go_at_call 30; (with_reducible refine (HVC.out _).mono ?_); intro e w1 hv; obtain ⟨her, A2, c2, A3, c3, rfl, hr2, hr3, hbl⟩ := hv; have e1 : ((er : Int) != 0) = true := bne_iff_ne.mpr (by omega); have HER := Aside0.mk her; have HI1 := Aside0.mk (HI.out.below hbl); have HR2 := Aside0.mk hr2; have HR3 := Aside0.mk hr3; have kb0 := fun (ob : Obj) => HI1.out.cellA ob 0 _ rfl; have kb1 := fun (ob : Obj) => HI1.out.cellA ob 1 _ rfl; have kb2 := fun (ob : Obj) => HI1.out.cellA ob 2 _ rfl; have kb3 := fun (ob : Obj) => HI1.out.cellA ob 3 _ rfl; have u0 := fun (ob : Obj) => (got_cells (HI1.out.alloc ob).res).1; have u1 := fun (ob : Obj) => (got_cells (HI1.out.alloc ob).res).2.1; have u2 := fun (ob : Obj) => (got_cells (HI1.out.alloc ob).res).2.2.1; have u3 := fun (ob : Obj) => (got_cells (HI1.out.alloc ob).res).2.2.2.1; have u4 := fun (ob : Obj) => (got_cells (HI1.out.alloc ob).res).2.2.2.2.1; have u5 := fun (ob : Obj) => (got_cells (HI1.out.alloc ob).res).2.2.2.2.2.1; have u6 := fun (ob : Obj) => (got_cells (HI1.out.alloc ob).res).2.2.2.2.2.2; have t0 := fun (ob : Obj) => (got_thaw (HI1.out.alloc ob).res).1; have t1 := fun (ob : Obj) => (got_thaw (HI1.out.alloc ob).res).2.1; have t2 := fun (ob : Obj) => (got_thaw (HI1.out.alloc ob).res).2.2.1; have t3 := fun (ob : Obj) => (got_thaw (HI1.out.alloc ob).res).2.2.2.1; have t4 := fun (ob : Obj) => (got_thaw (HI1.out.alloc ob).res).2.2.2.2.1; have t5 := fun (ob : Obj) => (got_thaw (HI1.out.alloc ob).res).2.2.2.2.2.1; have t6 := fun (ob : Obj) => (got_thaw (HI1.out.alloc ob).res).2.2.2.2.2.2; clear her hr2 hr3 hbl)
            refine bodyPost_ret (results_cell_row rfl _ _ (W.heap.size + 1) 53 _ (0, 0) _ rfl (GotV.mkR (HI1.out.alloc _).bel (Nat.le_succ _) (HI1.out.alloc _).res 0 ⟨#[]⟩ 0 (er : Int) (pp : Int) (Kd.R_alloc HR2.out _) (Kd.R_alloc HR3.out _) HBIG.out HBIG.out).1 Tryd.underlying53 rfl (by kernel_rfl)) rfl ?_
            rw [HOE.out]
            exact ⟨HER.out, (GotV.mkR (HI1.out.alloc _).bel (Nat.le_succ _) (HI1.out.alloc _).res 0 ⟨#[]⟩ 0 (er : Int) (pp : Int) (Kd.R_alloc HR2.out _) (Kd.R_alloc HR3.out _) HBIG.out HBIG.out).2⟩
          · obtain ⟨j, hv, rfl⟩ := oneI_some hone
            have HVC := Aside0.mk (HVV.out at_ _ hat hv)
            have hq := valueF_val s.data.toList (k + 1) r at_ q1 j (by rw [HSS.out]; exact hat) hv
            rw [HSS.out] at hq
            obtain ⟨hq1, hq2⟩ := hq
            have hbl := blanks_le s.data.toList q1 (by rw [HSS.out]; exact hq2)
            rw [HSS.out] at hbl
            have hbg := blanks_ge s.data.toList q1
            clear hone hv
            generalize hbe : blanksF s.data.toList q1 = bq at *
            have HBE := Aside0.mk hbe
            have HBQ := Aside0.mk (show q1 ≤ 4611686018427387904 by omega)
            have HLEN := Aside0.mk (show (ys.length + 1) * 72 ≤ 140737488355328 by omega)
            have p3 : (0 ≤ (bq : Int)) = True := eq_true (by omega)
            clear hbe
            rcases hT with ⟨hc, hoe⟩ | ⟨c, hc, hcc⟩
            · have hend : s.size ≤ bq := by rw [List.getElem?_eq_none_iff, size_data] at hc; exact hc
              have HOE := Aside0.mk (show o = .err 3 s.size by rw [hoe, size_data])
              have HM := Aside0.mk (show mustO s.data.toList bq = .err 3 s.size by rw [mustO_short (by rw [size_data]; exact hend), size_data])
              have h2 : decide (s.size ≤ bq) = true := decide_eq_true hend
              have h3 : decide (bq < s.size) = false := decide_eq_false (by omega)
              have h4 : ((bq : Int) < (s.size : Int)) = False := eq_false (by omega)
              clear hc hoe hend
              go_wp2_with (first | (go_at_call 30; (with_reducible refine (HVC.out _).mono ?_); intro e w1 hv; obtain ⟨A2, c2, A3, c3, rfl, hr2, hr3, hbl⟩ := hv; have HI1 := Aside0.mk (HI.out.below hbl); have HR2 := Aside0.mk hr2; have HR3 := Aside0.mk hr3; have kb0 := fun (ob : Obj) => HI1.out.cellA ob 0 _ rfl; have kb1 := fun (ob : Obj) => HI1.out.cellA ob 1 _ rfl; have kb2 := fun (ob : Obj) => HI1.out.cellA ob 2 _ rfl; have kb3 := fun (ob : Obj) => HI1.out.cellA ob 3 _ rfl; have HSZ := Aside0.mk hbl.size; clear hr2 hr3 hbl) | (at_builtin; refine Kd.R_append k25 (w0 := W) W.heap.size rfl (.tmp 67) (.tmp 70) 23 25 (.agg #[.int .i64 0, .string ⟨#[]⟩, .slice none 0 0, .slice none 0 0]) 72 rfl Tryd.underlying23 info25 rfl (by decide) (by decide) (.slice Av nv cv) ys j [.int .i64 j.f0, .string j.f1, .slice A2 j.f2.length c2, .slice A3 j.f3.length c3] (fun k => W.heap.size + 2 ≤ k ∧ some k ≠ (Value.slice none 0 0).ownBlock) (fun b => wr.heap.size ≤ b) rfl ?ax ?am ?ak ?af ?ao ?ab ?az HLEN.out ?_; (case ax => rw [World.size_alloc]; rfl); (case am => exact jV_M (Kd.R_alloc HR2.out _) (Kd.R_alloc HR3.out _) HI.out.bel.size (Nat.le_refl _)); (case ak => exact fun k hk => HI.out.fresh hk); (case af => exact fun k hk => (HI.out.fresh (le_of_alloc HSZ.out hk)).1); (case ao => exact (HI1.out.alloc _).rv); (case ab => exact (HI1.out.alloc _).bel); (case az => exact (HI1.out.alloc _).bel.size); intro v1 w3 hr1 hb3 hg1 hat1; obtain ⟨Aw, nw, cw, rfl⟩ : ∃ A' n' c', v1 = Value.slice A' n' c' := (by obtain ⟨A, c, h⟩ := Kd.R_slice hr1; exact ⟨_, _, _, h⟩); have HI4 := Aside0.mk ((HI1.out.alloc _).item hr1 hb3 hg1); have HG4 := Aside0.mk ((HI1.out.alloc _).item_box (heap_alloc_new w1 _) (Nat.le_refl _) HI1.out hg1 (.slice Aw nw cw)); have o3 : w3.cell? ⟨W.heap.size, 3, none⟩ = some (.slice Av nv cv) := (blk_cell ((HI1.out.alloc _).item_old hg1) 3).trans rfl; have q3 := blk_frozen ((HI1.out.alloc _).item_old hg1) 3; have x0 := HI4.out.cell 0 _ rfl; have x1 := HI4.out.cell 1 _ rfl; have x2 := HI4.out.cell 2 _ rfl; have x3 := HI4.out.cell 3 _ rfl; obtain ⟨y0, y1, y2, y3, y4, y5, y6⟩ := got_cells HG4.out; obtain ⟨u0, u1, u2, u3, u4, u5, u6⟩ := got_cells HI4.out.res; obtain ⟨t0, t1, t2, t3, t4, t5, t6⟩ := got_thaw HI4.out.res; clear hr1 hb3 hg1 hat1) | (go_at_call 31; (with_reducible refine (rblanks_calls s q1 _ hs HBQ.out).mono ?_); rintro e w5 ⟨rfl, rfl⟩; rw [HBE.out]) | (go_at_call 70; (with_reducible refine (rmust_calls s bq _).mono ?_); intro e w9 hv; rw [HM.out] at hv; obtain ⟨_, hv⟩ := hv; obtain ⟨A7, c7, A8, c8, rfl, hb1, hbk, hfin⟩ := GotV.put HI4.out.bel (Nat.le_succ _) HI4.out.res hv; have HBK := Aside0.mk hbk; have HFIN := Aside0.mk hfin; obtain ⟨z0, z1, z2, z3, z4, z5, z6⟩ := got_cells hb1; obtain ⟨g0, g1, g2, g3, g4, g5, g6⟩ := got_thaw hb1; clear hv hb1 hbk hfin))
              refine bodyPost_ret (results_cell_row rfl _ _ (W.heap.size + 1) 53 _ (0, 0) _ rfl HBK.out Tryd.underlying53 rfl (by kernel_rfl)) rfl ?_
              rw [HOE.out]
              exact ⟨by decide, HFIN.out⟩
            · obtain ⟨hlt, hcb⟩ := List.getElem?_eq_some_iff.1 hc
              rw [size_data] at hlt
              have hx : ∀ h : bq < s.size, s[bq]'h = c := fun h => hcb
              have h2 : decide (s.size ≤ bq) = false := decide_eq_false (by omega)
              have h3 : decide (bq < s.size) = true := decide_eq_true hlt
              have p4 : ((bq : Int) < (s.size : Int)) = True := eq_true (by omega)
              have HL := Aside0.mk hlt
              clear hc hcb
              rcases hcc with ⟨hc1, hoe⟩ | ⟨hc1, hc2, hoe⟩ | ⟨hc1, hc2, hoe⟩
              · have e5 : ((c.toNat : Int) == 93) = true := beq_iff_eq.mpr ((u8_eq c 93).1 hc1)
                have HOE := Aside0.mk hoe
                clear hc1 hoe hlt
                go_wp2_with (first | (go_at_call 30; (with_reducible refine (HVC.out _).mono ?_); intro e w1 hv; obtain ⟨A2, c2, A3, c3, rfl, hr2, hr3, hbl⟩ := hv; have HI1 := Aside0.mk (HI.out.below hbl); have HR2 := Aside0.mk hr2; have HR3 := Aside0.mk hr3; have kb0 := fun (ob : Obj) => HI1.out.cellA ob 0 _ rfl; have kb1 := fun (ob : Obj) => HI1.out.cellA ob 1 _ rfl; have kb2 := fun (ob : Obj) => HI1.out.cellA ob 2 _ rfl; have kb3 := fun (ob : Obj) => HI1.out.cellA ob 3 _ rfl; have HSZ := Aside0.mk hbl.size; clear hr2 hr3 hbl) | (at_builtin; refine Kd.R_append k25 (w0 := W) W.heap.size rfl (.tmp 67) (.tmp 70) 23 25 (.agg #[.int .i64 0, .string ⟨#[]⟩, .slice none 0 0, .slice none 0 0]) 72 rfl Tryd.underlying23 info25 rfl (by decide) (by decide) (.slice Av nv cv) ys j [.int .i64 j.f0, .string j.f1, .slice A2 j.f2.length c2, .slice A3 j.f3.length c3] (fun k => W.heap.size + 2 ≤ k ∧ some k ≠ (Value.slice none 0 0).ownBlock) (fun b => wr.heap.size ≤ b) rfl ?ax ?am ?ak ?af ?ao ?ab ?az HLEN.out ?_; (case ax => rw [World.size_alloc]; rfl); (case am => exact jV_M (Kd.R_alloc HR2.out _) (Kd.R_alloc HR3.out _) HI.out.bel.size (Nat.le_refl _)); (case ak => exact fun k hk => HI.out.fresh hk); (case af => exact fun k hk => (HI.out.fresh (le_of_alloc HSZ.out hk)).1); (case ao => exact (HI1.out.alloc _).rv); (case ab => exact (HI1.out.alloc _).bel); (case az => exact (HI1.out.alloc _).bel.size); intro v1 w3 hr1 hb3 hg1 hat1; obtain ⟨Aw, nw, cw, rfl⟩ : ∃ A' n' c', v1 = Value.slice A' n' c' := (by obtain ⟨A, c, h⟩ := Kd.R_slice hr1; exact ⟨_, _, _, h⟩); have HI4 := Aside0.mk ((HI1.out.alloc _).item hr1 hb3 hg1); have HG4 := Aside0.mk ((HI1.out.alloc _).item_box (heap_alloc_new w1 _) (Nat.le_refl _) HI1.out hg1 (.slice Aw nw cw)); have o3 : w3.cell? ⟨W.heap.size, 3, none⟩ = some (.slice Av nv cv) := (blk_cell ((HI1.out.alloc _).item_old hg1) 3).trans rfl; have q3 := blk_frozen ((HI1.out.alloc _).item_old hg1) 3; have x0 := HI4.out.cell 0 _ rfl; have x1 := HI4.out.cell 1 _ rfl; have x2 := HI4.out.cell 2 _ rfl; have x3 := HI4.out.cell 3 _ rfl; obtain ⟨y0, y1, y2, y3, y4, y5, y6⟩ := got_cells HG4.out; obtain ⟨u0, u1, u2, u3, u4, u5, u6⟩ := got_cells HI4.out.res; obtain ⟨t0, t1, t2, t3, t4, t5, t6⟩ := got_thaw HI4.out.res; clear hr1 hb3 hg1 hat1) | (go_at_call 31; (with_reducible refine (rblanks_calls s q1 _ hs HBQ.out).mono ?_); rintro e w5 ⟨rfl, rfl⟩; rw [HBE.out]))
                obtain ⟨hbk, hfin⟩ := HI4.out.final ((bq : Int) + 1)
                have HBK := Aside0.mk hbk
                have HFIN := Aside0.mk hfin
                clear hbk hfin
                refine bodyPost_ret (results_cell_row rfl _ _ (W.heap.size + 1) 53 _ (0, 0) _ rfl HBK.out Tryd.underlying53 rfl (by kernel_rfl)) rfl ?_
                rw [HOE.out]
                show GotV _ _ _ _ _ _ _ _ _ _
                rw [← cast1 bq]
                exact HFIN.out
              · have e5 : ((c.toNat : Int) == 93) = false := beq_eq_false_iff_ne.mpr (fun hh => hc1 ((u8_eq c 93).2 hh))
                have e6 : ((c.toNat : Int) != 44) = false := by rw [bne_eq_false_iff_eq]; exact (u8_eq c 44).1 hc2
                have HB1 := Aside0.mk (show bq + 1 ≤ 4611686018427387904 by omega)
                have hb2 := blanks_le s.data.toList (bq + 1) (by rw [size_data]; omega)
                rw [size_data] at hb2
                have hb3 := blanks_ge s.data.toList (bq + 1)
                have HLL := Aside0.mk hoe
                have HLN := Aside0.mk (show (ys ++ [j]).length ≤ blanksF s.data.toList (bq + 1) by rw [List.length_append]; show ys.length + 1 ≤ _; omega)
                clear hc1 hc2 hoe hlt hb3
                generalize hbb : blanksF s.data.toList (bq + 1) = b2 at *
                have HB2E := Aside0.mk hbb
                clear hbb
                have w3e := cast1 bq
                have hb1 := HB1.out
                generalize bq + 1 = b1 at *
                go_wp2_with (first | (go_at_call 30; (with_reducible refine (HVC.out _).mono ?_); intro e w1 hv; obtain ⟨A2, c2, A3, c3, rfl, hr2, hr3, hbl⟩ := hv; have HI1 := Aside0.mk (HI.out.below hbl); have HR2 := Aside0.mk hr2; have HR3 := Aside0.mk hr3; have kb0 := fun (ob : Obj) => HI1.out.cellA ob 0 _ rfl; have kb1 := fun (ob : Obj) => HI1.out.cellA ob 1 _ rfl; have kb2 := fun (ob : Obj) => HI1.out.cellA ob 2 _ rfl; have kb3 := fun (ob : Obj) => HI1.out.cellA ob 3 _ rfl; have HSZ := Aside0.mk hbl.size; clear hr2 hr3 hbl) | (at_builtin; refine Kd.R_append k25 (w0 := W) W.heap.size rfl (.tmp 67) (.tmp 70) 23 25 (.agg #[.int .i64 0, .string ⟨#[]⟩, .slice none 0 0, .slice none 0 0]) 72 rfl Tryd.underlying23 info25 rfl (by decide) (by decide) (.slice Av nv cv) ys j [.int .i64 j.f0, .string j.f1, .slice A2 j.f2.length c2, .slice A3 j.f3.length c3] (fun k => W.heap.size + 2 ≤ k ∧ some k ≠ (Value.slice none 0 0).ownBlock) (fun b => wr.heap.size ≤ b) rfl ?ax ?am ?ak ?af ?ao ?ab ?az HLEN.out ?_; (case ax => rw [World.size_alloc]; rfl); (case am => exact jV_M (Kd.R_alloc HR2.out _) (Kd.R_alloc HR3.out _) HI.out.bel.size (Nat.le_refl _)); (case ak => exact fun k hk => HI.out.fresh hk); (case af => exact fun k hk => (HI.out.fresh (le_of_alloc HSZ.out hk)).1); (case ao => exact (HI1.out.alloc _).rv); (case ab => exact (HI1.out.alloc _).bel); (case az => exact (HI1.out.alloc _).bel.size); intro v1 w3 hr1 hb3 hg1 hat1; obtain ⟨Aw, nw, cw, rfl⟩ : ∃ A' n' c', v1 = Value.slice A' n' c' := (by obtain ⟨A, c, h⟩ := Kd.R_slice hr1; exact ⟨_, _, _, h⟩); have HI4 := Aside0.mk ((HI1.out.alloc _).item hr1 hb3 hg1); have HG4 := Aside0.mk ((HI1.out.alloc _).item_box (heap_alloc_new w1 _) (Nat.le_refl _) HI1.out hg1 (.slice Aw nw cw)); have o3 : w3.cell? ⟨W.heap.size, 3, none⟩ = some (.slice Av nv cv) := (blk_cell ((HI1.out.alloc _).item_old hg1) 3).trans rfl; have q3 := blk_frozen ((HI1.out.alloc _).item_old hg1) 3; have x0 := HI4.out.cell 0 _ rfl; have x1 := HI4.out.cell 1 _ rfl; have x2 := HI4.out.cell 2 _ rfl; have x3 := HI4.out.cell 3 _ rfl; obtain ⟨y0, y1, y2, y3, y4, y5, y6⟩ := got_cells HG4.out; obtain ⟨u0, u1, u2, u3, u4, u5, u6⟩ := got_cells HI4.out.res; obtain ⟨t0, t1, t2, t3, t4, t5, t6⟩ := got_thaw HI4.out.res; clear hr1 hb3 hg1 hat1) | (go_at_call 31; (with_reducible refine (rblanks_calls s q1 _ hs HBQ.out).mono ?_); rintro e w5 ⟨rfl, rfl⟩; rw [HBE.out]) | (go_at_call 31; (with_reducible refine (rblanks_calls s b1 _ hs HB1.out).mono ?_); rintro e w5 ⟨rfl, rfl⟩; rw [HB2E.out]))
                clear w3e
                go_roundg g
                case measure => omega
                case rel => exact ⟨ys ++ [j], b2, Aw, nw, cw, rfl, hb2, HLN.out, HI4, HLL⟩
              · have e5 : ((c.toNat : Int) == 93) = false := beq_eq_false_iff_ne.mpr (fun hh => hc1 ((u8_eq c 93).2 hh))
                have e6 : ((c.toNat : Int) != 44) = true := bne_iff_ne.mpr (fun hh => hc2 ((u8_eq c 44).2 hh))
                have HOE := Aside0.mk hoe
                have HM := Aside0.mk (show mustO s.data.toList bq = .err 40 bq by rw [mustO_bad (by rw [size_data]; omega)])
                clear hc1 hc2 hoe hlt
                go_wp2_with (first | (go_at_call 30; (with_reducible refine (HVC.out _).mono ?_); intro e w1 hv; obtain ⟨A2, c2, A3, c3, rfl, hr2, hr3, hbl⟩ := hv; have HI1 := Aside0.mk (HI.out.below hbl); have HR2 := Aside0.mk hr2; have HR3 := Aside0.mk hr3; have kb0 := fun (ob : Obj) => HI1.out.cellA ob 0 _ rfl; have kb1 := fun (ob : Obj) => HI1.out.cellA ob 1 _ rfl; have kb2 := fun (ob : Obj) => HI1.out.cellA ob 2 _ rfl; have kb3 := fun (ob : Obj) => HI1.out.cellA ob 3 _ rfl; have HSZ := Aside0.mk hbl.size; clear hr2 hr3 hbl) | (at_builtin; refine Kd.R_append k25 (w0 := W) W.heap.size rfl (.tmp 67) (.tmp 70) 23 25 (.agg #[.int .i64 0, .string ⟨#[]⟩, .slice none 0 0, .slice none 0 0]) 72 rfl Tryd.underlying23 info25 rfl (by decide) (by decide) (.slice Av nv cv) ys j [.int .i64 j.f0, .string j.f1, .slice A2 j.f2.length c2, .slice A3 j.f3.length c3] (fun k => W.heap.size + 2 ≤ k ∧ some k ≠ (Value.slice none 0 0).ownBlock) (fun b => wr.heap.size ≤ b) rfl ?ax ?am ?ak ?af ?ao ?ab ?az HLEN.out ?_; (case ax => rw [World.size_alloc]; rfl); (case am => exact jV_M (Kd.R_alloc HR2.out _) (Kd.R_alloc HR3.out _) HI.out.bel.size (Nat.le_refl _)); (case ak => exact fun k hk => HI.out.fresh hk); (case af => exact fun k hk => (HI.out.fresh (le_of_alloc HSZ.out hk)).1); (case ao => exact (HI1.out.alloc _).rv); (case ab => exact (HI1.out.alloc _).bel); (case az => exact (HI1.out.alloc _).bel.size); intro v1 w3 hr1 hb3 hg1 hat1; obtain ⟨Aw, nw, cw, rfl⟩ : ∃ A' n' c', v1 = Value.slice A' n' c' := (by obtain ⟨A, c, h⟩ := Kd.R_slice hr1; exact ⟨_, _, _, h⟩); have HI4 := Aside0.mk ((HI1.out.alloc _).item hr1 hb3 hg1); have HG4 := Aside0.mk ((HI1.out.alloc _).item_box (heap_alloc_new w1 _) (Nat.le_refl _) HI1.out hg1 (.slice Aw nw cw)); have o3 : w3.cell? ⟨W.heap.size, 3, none⟩ = some (.slice Av nv cv) := (blk_cell ((HI1.out.alloc _).item_old hg1) 3).trans rfl; have q3 := blk_frozen ((HI1.out.alloc _).item_old hg1) 3; have x0 := HI4.out.cell 0 _ rfl; have x1 := HI4.out.cell 1 _ rfl; have x2 := HI4.out.cell 2 _ rfl; have x3 := HI4.out.cell 3 _ rfl; obtain ⟨y0, y1, y2, y3, y4, y5, y6⟩ := got_cells HG4.out; obtain ⟨u0, u1, u2, u3, u4, u5, u6⟩ := got_cells HI4.out.res; obtain ⟨t0, t1, t2, t3, t4, t5, t6⟩ := got_thaw HI4.out.res; clear hr1 hb3 hg1 hat1) | (go_at_call 31; (with_reducible refine (rblanks_calls s q1 _ hs HBQ.out).mono ?_); rintro e w5 ⟨rfl, rfl⟩; rw [HBE.out]) | (go_at_call 70; (with_reducible refine (rmust_calls s bq _).mono ?_); intro e w9 hv; rw [HM.out] at hv; obtain ⟨_, hv⟩ := hv; obtain ⟨A7, c7, A8, c8, rfl, hb1, hbk, hfin⟩ := GotV.put HI4.out.bel (Nat.le_succ _) HI4.out.res hv; have HBK := Aside0.mk hbk; have HFIN := Aside0.mk hfin; obtain ⟨z0, z1, z2, z3, z4, z5, z6⟩ := got_cells hb1; obtain ⟨g0, g1, g2, g3, g4, g5, g6⟩ := got_thaw hb1; clear hv hb1 hbk hfin))
                refine bodyPost_ret (results_cell_row rfl _ _ (W.heap.size + 1) 53 _ (0, 0) _ rfl HBK.out Tryd.underlying53 rfl (by kernel_rfl)) rfl ?_
                rw [HOE.out]
                exact ⟨by decide, HFIN.out⟩)
end Go.Proofs.YtaalajhmfdcalaaDoor.X
namespace Go.Proofs.YtaalajhmfdcalaaDoor.X
open Go.RowKit Go.Lib Go.Proofs.YtaalajhmfdcalaaDoorW.PrintWords Go.Proofs.YtaalajhmfdcalaaDoorW.PrintLast Go.Proofs.YtaalajhmfdcalaaDoorW.PrintMore
theorem nz_int {er : Nat} (h : er ≠ 0) : ¬ (er : Int) = 0 := by omega
theorem ISt.name_box {W wr w3 : World} {kd : Int} {ns : List ByteArray} {ys : List J} {sn sv : Value} {G : Nat} {o : Obj} {w0 : World} (h : ISt W wr kd ns ys sn sv) (hG : wr.heap[G]? = some o) (hw : w0.heap.size ≤ G) (h0 : ISt W w0 kd ns ys sn sv) (hg : wr.grownBy w3 sn.ownBlock) (v : Value) : (w3.setCell ⟨W.heap.size, 2, none⟩ v).heap[G]? = some o := by
  have h1 := h0.big
  exact (Below.heap_setCell _ _ _ _ (by show G ≠ W.heap.size; omega)).trans ((hg.block _ (lt_of_block hG) (h0.fresh hw).1.2).trans hG)
theorem fourF_err {s : List UInt8} : ∀ {n x p e q : Nat}, fourF s n x p = .err e q → e ≠ 0
  | 0, x, p, e, q, h => by cases h
  | n + 1, x, p, e, q, h => by
    unfold fourF at h
    cases hc : s[p]? with
    | none => rw [hc] at h; simp only at h; injection h with h1 h2; omega
    | some c =>
      rw [hc] at h
      simp only at h
      cases hh : hexF c with
      | none => rw [hh] at h; simp only at h; injection h with h1 h2; omega
      | some y => rw [hh] at h; exact fourF_err h
theorem mustF_err {s : List UInt8} {f : Nat} : ∀ {w : List UInt8} {p e q : Nat}, mustF s f w p = .err e q → e ≠ 0
  | [], p, e, q, h => by cases h
  | c :: w, p, e, q, h => by
    unfold mustF at h
    cases hc : s[p]? with
    | none => rw [hc] at h; simp only at h; injection h with h1 h2; omega
    | some x =>
      rw [hc] at h
      simp only at h
      by_cases hx : x = c
      · rw [if_pos hx] at h; exact mustF_err h
      · rw [if_neg hx] at h; injection h with h1 h2; omega
theorem escF_err {s : List UInt8} {f e q : Nat} (h : escF s f = .err e q) : e ≠ 0 := by
  unfold escF at h
  repeat' split at h
  all_goals first
    | (cases h; done)
    | (injection h with h1 h2; omega)
    | (injection h with h1 h2; subst h1; first | exact fourF_err (by assumption) | exact mustF_err (by assumption))
theorem textF_err {s : List UInt8} : ∀ {k : Nat} {out : List UInt8} {p e q : Nat}, textF s k out p = some (.err e q) → e ≠ 0
  | 0, out, p, e, q, h => by cases h
  | k + 1, out, p, e, q, h => by
    unfold textF at h
    repeat' split at h
    all_goals first
      | (injection h with h; injection h with h1 h2; omega)
      | exact textF_err h
      | (injection h with h; injection h with h1 h2; subst h1; exact escF_err (by assumption))
      | (cases h; done)
      | (injection h with h; cases h; done)
theorem rmember_calls (s : ByteArray) (p k : Nat) (A : Option Addr) (c : Nat) (names : List ByteArray) (W : World) (hs : s.size ≤ 4611686018427387904) (hC : Kd.string.C W A names.length names) (hnl : names.length ≤ 4611686018427387904) (hS : StrC s k p) (o : Out (List UInt8)) (ho : memF s.data.toList k (names.map (fun b => b.data.toList)) p = some o) :
    Calls Tryd.prog 74 #[.string s, .int .i64 p, .slice A names.length c] W (MemE o W) := by
  by_cases h : s.size ≤ p
  · have e : s.data.toList[p]? = none := List.getElem?_eq_none (by rw [size_data]; exact h)
    have : o = .err 3 s.size := by
      unfold memF at ho
      rw [e] at ho
      rw [← size_data s]
      exact (Option.some.inj ho).symm
    rw [this]
    exact rmember_none s p A _ c W h
  · have hlt : p < s.size := by omega
    obtain ⟨u, hu, hx⟩ := drop_at s p hlt
    have e := at_drop hu
    by_cases h34 : u = 34
    · subst h34
      cases ht : textF s.data.toList k [] (p + 1) with
      | none => unfold memF at ho; rw [e] at ho; simp only [if_true, ht] at ho; cases ho
      | some ot =>
        cases ot with
        | err er q =>
          have : o = .err er q := by
            unfold memF at ho
            rw [e] at ho
            simp only [if_true, ht] at ho
            exact (Option.some.inj ho).symm
          rw [this]
          exact rmember_err s p k A _ c W hlt hx hS er q ht (textF_err ht)
        | val nm q1 =>
          have hv := textF_val _ _ _ _ _ _ ht
          rw [size_data] at hv
          exact rmember_val s p k A c names W hs hC hnl hlt hx hS nm q1 hv.2 ht o ho
    · have : o = .err 40 p := by
        unfold memF at ho
        rw [e] at ho
        simp only [if_neg h34] at ho
        exact (Option.some.inj ho).symm
      rw [this]
      exact rmember_other s p A _ c W hlt u hx h34
theorem memF_val {s : List UInt8} {k : Nat} {names : List (List UInt8)} {q q2 : Nat} {nm : List UInt8} (h : memF s k names q = some (.val nm q2)) : q < q2 ∧ q2 ≤ s.length := by
  unfold memF at h
  cases hc : s[q]? with
  | none => rw [hc] at h; simp at h
  | some c =>
    rw [hc] at h
    simp only at h
    by_cases h34 : c = 34
    · rw [if_pos h34] at h
      cases ht : textF s k [] (q + 1) with
      | none => rw [ht] at h; cases h
      | some ot =>
        rw [ht] at h
        cases ot with
        | err e p => simp at h
        | val nm' q1 =>
          simp only at h
          by_cases hm : nm' ∈ names
          · rw [if_pos hm] at h; simp at h
          · rw [if_neg hm] at h
            have hv := textF_val _ _ _ _ _ _ ht
            cases hb : s[blanksF s q1]? with
            | none => rw [hb] at h; simp at h
            | some c2 =>
              rw [hb] at h
              simp only at h
              by_cases h58 : c2 = 58
              · rw [if_pos h58] at h
                simp only [Option.some.injEq, Out.val.injEq] at h
                obtain ⟨hl, _⟩ := List.getElem?_eq_some_iff.1 hb
                have h1 := blanks_ge s q1
                have h2 := blanks_ge s (blanksF s q1 + 1)
                have h3 := blanks_le s (blanksF s q1 + 1) (by omega)
                omega
              · rw [if_neg h58] at h; simp at h
    · rw [if_neg h34] at h; simp at h
theorem oneM_parts {v : Nat → Option (Out J)} {s : List UInt8} {k : Nat} {a : List ByteArray × List J} {q : Nat} {o1 : Out (List ByteArray × List J)} (h : oneM v s k a q = some o1) :
    (∃ e p, memF s k (a.1.map (fun b => b.data.toList)) q = some (.err e p) ∧ o1 = .err e p) ∨ (∃ nm q2, memF s k (a.1.map (fun b => b.data.toList)) q = some (.val nm q2) ∧
      ((∃ e p, v q2 = some (.err e p) ∧ o1 = .err e p) ∨ (∃ j q1, v q2 = some (.val j q1) ∧ o1 = .val (a.1 ++ [bsJ nm], a.2 ++ [j]) q1))) := by
  rw [oneM_mem] at h
  cases hm : memF s k (a.1.map (fun b => b.data.toList)) q with
  | none => rw [hm] at h; cases h
  | some om =>
    rw [hm] at h
    cases om with
    | err e p => exact .inl ⟨e, p, rfl, (Option.some.inj h).symm⟩
    | val nm q2 =>
      refine .inr ⟨nm, q2, rfl, ?_⟩
      simp only at h
      cases hv : v q2 with
      | none => rw [hv] at h; cases h
      | some ov =>
        rw [hv] at h
        cases ov with
        | err e p => exact .inl ⟨e, p, rfl, by simpa [Out.map] using h.symm⟩
        | val j q1 => exact .inr ⟨j, q1, rfl, by simpa [Out.map] using h.symm⟩
set_option maxRecDepth 1000000 in
set_option maxHeartbeats 16000000 in
theorem ritems_obj (s : ByteArray) (k r p : Nat) (d : Int) (W : World) (hs : s.size ≤ 4611686018427387904) (hs2 : s.size ≤ 1000000) (hd0 : 0 ≤ d) (hd1 : d ≤ 31) (hp : p < s.size) (hS : ∀ q, q ≤ s.size → StrC s (k + 1) q) (hV : VALC s (k + 1) r (d + 1)) (o : Out (List ByteArray × List J)) (ho : sevF (oneM (valueF s.data.toList (k + 1) r) s.data.toList (k + 1)) s.data.toList 125 (k + 1) ([], []) p = some o) :
    Calls Tryd.prog 49 #[.string s, .int .i64 (p : Int), .int .i64 d, .agg #[.int .i64 6, .string ⟨#[]⟩, .slice none 0 0, .slice none 0 0], .int .u8 125] W (GotE (o.map fun a => ⟨6, ⟨#[]⟩, a.1, a.2⟩) W) := by
  have hsz : s.data.toList.length = s.size := size_data s
  have hq0 := blanks_le s.data.toList (p + 1) (by rw [size_data]; omega)
  rw [size_data] at hq0
  have HSS := Aside0.mk hsz
  have HVV := Aside0.mk hV
  clear hsz hV
  have HP1 := Aside0.mk (show p + 1 ≤ 4611686018427387904 by omega)
  have w3p := cast1 p
  have hp1 := HP1.out
  have HST := Aside0.mk hS
  clear hS
  have HI0 := Aside0.mk (ISt.start W 6)
  have x0 := HI0.out.cell 0 _ rfl
  have x1 := HI0.out.cell 1 _ rfl
  have x2 := HI0.out.cell 2 _ rfl
  have x3 := HI0.out.cell 3 _ rfl
  obtain ⟨z0, z1, z2, z3, z4, z5, z6⟩ := got_cells HI0.out.res
  obtain ⟨g0, g1, g2, g3, g4, g5, g6⟩ := got_thaw HI0.out.res
  rcases sevF_in ho (fun hn => by unfold oneM; rw [hn]) with ⟨hc, hoe⟩ | ⟨hc, hL⟩
  · obtain ⟨hlt, hcb⟩ := List.getElem?_eq_some_iff.1 hc
    rw [size_data] at hlt
    have HOE := Aside0.mk hoe
    clear ho hc hoe
    generalize hbe : blanksF s.data.toList (p + 1) = bq at *
    have HBE := Aside0.mk hbe
    clear hbe
    generalize p + 1 = p1 at *
    have hx : ∀ h : bq < s.size, s[bq]'h = 125 := fun h => hcb
    have h3 : decide (bq < s.size) = true := decide_eq_true hlt
    have p4 : ((bq : Int) < (s.size : Int)) = True := eq_true (by omega)
    have p3 : (0 ≤ (bq : Int)) = True := eq_true (by omega)
    clear hcb
    go_enter Tryd.func49, Tryd.ntmps49
    go_wp2_with (go_at_call 31; (with_reducible refine (rblanks_calls s p1 _ hs HP1.out).mono ?_); rintro e w5 ⟨rfl, rfl⟩; rw [HBE.out])
    refine bodyPost_ret (results_cell_row rfl _ _ (W.heap.size + 1) 53 #[.int .i64 6, .string (⟨#[]⟩ : ByteArray), .slice none 0 0, .slice none 0 0, .int .i64 ((bq : Int) + 1), .int .i64 0, .int .i64 0] (0, 0) _ rfl (heap_alloc2_new W _ _) Tryd.underlying53 rfl (by kernel_rfl)) rfl ?_
    rw [HOE.out]
    show GotV _ _ _ _ _ _ _ _ _ _
    rw [← cast1 bq]
    exact ⟨none, 0, none, 0, rfl, Kd.R_nil _ _ _ _ _, Kd.R_nil _ _ _ _ _, below_alloc (below_alloc (Below.refl _ _) _) _⟩
  · have HL0 := Aside0.mk hL
    clear ho hL
    generalize hbe : blanksF s.data.toList (p + 1) = b0 at *
    have HBE := Aside0.mk hbe
    clear hbe
    generalize p + 1 = p1 at *
    go_enter Tryd.func49, Tryd.ntmps49
    by_cases hlt0 : b0 < s.size
    case' pos =>
      obtain ⟨u, hu, hx⟩ := drop_at s b0 hlt0
      have hu' := at_drop hu
      have e5 : ((u.toNat : Int) == 125) = false := beq_eq_false_iff_ne.mpr (fun hh => hc (by rw [hu', (u8_eq u 125).2 hh]))
      have h3 : decide (b0 < s.size) = true := decide_eq_true hlt0
      have p4 : ((b0 : Int) < (s.size : Int)) = True := eq_true (by omega)
      have p3 : (0 ≤ (b0 : Int)) = True := eq_true (by omega)
      clear hc hu hu'
      go_wp2_with (go_at_call 31; (with_reducible refine (rblanks_calls s p1 _ hs HP1.out).mono ?_); rintro e w5 ⟨rfl, rfl⟩; rw [HBE.out])
      clear hx e5 h3 p4 p3 hlt0
    case' neg =>
      have h3 : decide (b0 < s.size) = false := decide_eq_false hlt0
      have p4 : ((b0 : Int) < (s.size : Int)) = False := eq_false (by omega)
      clear hc
      go_wp2_with (go_at_call 31; (with_reducible refine (rblanks_calls s p1 _ hs HP1.out).mono ?_); rintro e w5 ⟨rfl, rfl⟩; rw [HBE.out])
      clear h3 p4 hlt0
    all_goals (
      clear x0 x1 x2 x3 z0 z1 z2 z3 z4 z5 z6 g0 g1 g2 g3 g4 g5 g6 w3p hp1
      go_loopg [11] (k + 1) (fun g v11 wr => ∃ (ns : List ByteArray) (ys : List J) (at_ : Nat) (An : Option Addr) (nn cn : Nat) (Av : Option Addr) (nv cv : Nat), v11 = .int .i64 (at_ : Int) ∧ at_ ≤ s.size ∧ ys.length ≤ at_ ∧ ns.length ≤ at_ ∧ Aside0 (ISt W wr 6 ns ys (.slice An nn cn) (.slice Av nv cv)) ∧ Aside0 (sevL (oneM (valueF s.data.toList (k + 1) r) s.data.toList (k + 1)) s.data.toList 125 g (ns, ys) at_ = some o))
      case atStart => exact ⟨[], [], b0, none, 0, 0, none, 0, 0, rfl, hq0, Nat.zero_le _, Nat.zero_le _, HI0, HL0⟩
      case round =>
        obtain ⟨ns, ys, at_, An, nn, cn, Av, nv, cv, rfl, hat, hyl, hnl, HI, HLL0⟩ := hrel
        clear HI0 HL0 HBE hq0
        cases gk with
        | zero => exact absurd HLL0.out (by simp [sevL])
        | succ g =>
          have x0 := HI.out.cell 0 _ rfl
          have x2 := HI.out.cell 2 _ rfl
          have HMM := Aside0.mk (show ∀ om, memF s.data.toList (k + 1) (ns.map (fun b => b.data.toList)) at_ = some om → Calls Tryd.prog 74 #[.string s, .int .i64 at_, .slice An nn cn] wr (MemE om wr) from fun om hom => by
            have hR := Kd.R_reads' HI.out.rn
            rw [hR.1]
            rw [hR.1] at hR
            exact rmember_calls s at_ (k + 1) An cn ns wr hs hR.2.2 (by omega) (HST.out at_ hat) om hom)
          have HLEN2 := Aside0.mk (show (ns.length + 1) * 16 ≤ 140737488355328 by omega)
          have HBIG := Aside0.mk (show W.heap.size + 1 < wr.heap.size by have := HI.out.big; omega)
          have hone1 := sevL_item _ _ _ _ _ _ _ HLL0.out
          have hall : (∃ er pp, memF s.data.toList (k + 1) (ns.map (fun b => b.data.toList)) at_ = some (.err er pp) ∧ o = .err er pp) ∨ (∃ nm qm, memF s.data.toList (k + 1) (ns.map (fun b => b.data.toList)) at_ = some (.val nm qm) ∧ ((∃ er pp, valueF s.data.toList (k + 1) r qm = some (.err er pp) ∧ o = .err er pp) ∨ (∃ j q1, valueF s.data.toList (k + 1) r qm = some (.val j q1) ∧
              ((s.data.toList[blanksF s.data.toList q1]? = none ∧ o = .err 3 s.data.toList.length) ∨ (∃ c, s.data.toList[blanksF s.data.toList q1]? = some c ∧ ((c = 125 ∧ o = .val (ns ++ [bsJ nm], ys ++ [j]) (blanksF s.data.toList q1 + 1)) ∨ (c ≠ 125 ∧ c = 44 ∧ sevL (oneM (valueF s.data.toList (k + 1) r) s.data.toList (k + 1)) s.data.toList 125 g (ns ++ [bsJ nm], ys ++ [j]) (blanksF s.data.toList (blanksF s.data.toList q1 + 1)) = some o) ∨ (c ≠ 125 ∧ c ≠ 44 ∧ o = .err 40 (blanksF s.data.toList q1)))))))) := by
            rcases hone1 with ⟨er, pp, h1, h2⟩ | ⟨a', q1, h1, h2⟩
            · rcases oneM_parts h1 with ⟨e, p, hm, he⟩ | ⟨nm, qm, hm, hh⟩
              · injection he with he1 he2
                subst he1 he2
                exact .inl ⟨_, _, hm, h2⟩
              · rcases hh with ⟨e, p, hv, he⟩ | ⟨j, q, hv, he⟩
                · injection he with he1 he2
                  subst he1 he2
                  exact .inr ⟨nm, qm, hm, .inl ⟨_, _, hv, h2⟩⟩
                · cases he
            · rcases oneM_parts h1 with ⟨e, p, hm, he⟩ | ⟨nm, qm, hm, hh⟩
              · cases he
              · rcases hh with ⟨e, p, hv, he⟩ | ⟨j, q, hv, he⟩
                · cases he
                · injection he with he1 he2
                  subst he1 he2
                  exact .inr ⟨nm, qm, hm, .inr ⟨j, _, hv, h2⟩⟩
          clear hone1
          rcases hall with ⟨er, pp, hm, hoe⟩ | ⟨nm, qm, hm, ⟨er, pp, hv, hoe⟩ | ⟨j, q1, hv, hT⟩⟩
          · have HMC := Aside0.mk (HMM.out _ hm)
            have HOE := Aside0.mk hoe
            clear hm hoe
            go_wp2_with (go_at_call 74; (with_reducible refine (HMC.out).mono ?_); intro e w1 hv; obtain ⟨her, x, rfl, A2, c2, A3, c3, hx, hr2, hr3, hbl⟩ := hv; injection hx with hx; subst hx; have e1 : ((er : Int) != 0) = true := bne_iff_ne.mpr (nz_int her); have HER := Aside0.mk her; have HI1 := Aside0.mk (HI.out.below hbl); have HR2 := Aside0.mk hr2; have HR3 := Aside0.mk hr3; have u0 := fun (ob : Obj) => (got_cells (HI1.out.alloc ob).res).1; have u1 := fun (ob : Obj) => (got_cells (HI1.out.alloc ob).res).2.1; have u2 := fun (ob : Obj) => (got_cells (HI1.out.alloc ob).res).2.2.1; have u3 := fun (ob : Obj) => (got_cells (HI1.out.alloc ob).res).2.2.2.1; have u4 := fun (ob : Obj) => (got_cells (HI1.out.alloc ob).res).2.2.2.2.1; have u5 := fun (ob : Obj) => (got_cells (HI1.out.alloc ob).res).2.2.2.2.2.1; have u6 := fun (ob : Obj) => (got_cells (HI1.out.alloc ob).res).2.2.2.2.2.2; have t0 := fun (ob : Obj) => (got_thaw (HI1.out.alloc ob).res).1; have t1 := fun (ob : Obj) => (got_thaw (HI1.out.alloc ob).res).2.1; have t2 := fun (ob : Obj) => (got_thaw (HI1.out.alloc ob).res).2.2.1; have t3 := fun (ob : Obj) => (got_thaw (HI1.out.alloc ob).res).2.2.2.1; have t4 := fun (ob : Obj) => (got_thaw (HI1.out.alloc ob).res).2.2.2.2.1; have t5 := fun (ob : Obj) => (got_thaw (HI1.out.alloc ob).res).2.2.2.2.2.1; have t6 := fun (ob : Obj) => (got_thaw (HI1.out.alloc ob).res).2.2.2.2.2.2; clear her hr2 hr3 hbl)
            refine bodyPost_ret (results_cell_row rfl _ _ (W.heap.size + 1) 53 _ (0, 0) _ rfl (GotV.mkR (HI1.out.alloc _).bel (Nat.le_succ _) (HI1.out.alloc _).res 0 ⟨#[]⟩ 0 (er : Int) (pp : Int) (Kd.R_alloc HR2.out _) (Kd.R_alloc HR3.out _) HBIG.out HBIG.out).1 Tryd.underlying53 rfl (by kernel_rfl)) rfl ?_
            rw [HOE.out]
            exact ⟨HER.out, (GotV.mkR (HI1.out.alloc _).bel (Nat.le_succ _) (HI1.out.alloc _).res 0 ⟨#[]⟩ 0 (er : Int) (pp : Int) (Kd.R_alloc HR2.out _) (Kd.R_alloc HR3.out _) HBIG.out HBIG.out).2⟩
          · have HMC := Aside0.mk (HMM.out _ hm)
            have hqm := memF_val hm
            rw [HSS.out] at hqm
            have HVC := Aside0.mk (HVV.out qm _ hqm.2 hv)
            have HOE := Aside0.mk hoe
            clear hm hoe hv hqm
            go_wp2_with (first | (go_at_call 74; (with_reducible refine (HMC.out).mono ?_); intro e w0 hv; obtain ⟨x, rfl, A5, c5, A6, c6, hx, hr5, hr6, hbm⟩ := hv; injection hx with hx; subst hx; have HIm := Aside0.mk (HI.out.below hbm); have ka0 := fun (ob : Obj) => HIm.out.cellA ob 0 _ rfl; have ka1 := fun (ob : Obj) => HIm.out.cellA ob 1 _ rfl; have ka2 := fun (ob : Obj) => HIm.out.cellA ob 2 _ rfl; have ka3 := fun (ob : Obj) => HIm.out.cellA ob 3 _ rfl; have HSM := Aside0.mk hbm.size; clear hr5 hr6 hbm) | (at_builtin; refine Kd.R_append Kd.string (w0 := W) W.heap.size rfl (.tmp 50) (.tmp 52) 22 9 (.string ⟨#[]⟩) 16 rfl Tryd.underlying22 info9 rfl (by decide) (by decide) (.slice An nn cn) ns (bsJ nm) [.string (bsJ nm)] (fun k => W.heap.size + 2 ≤ k) (fun _ => False) rfl ?bx rfl (fun _ h => h.elim) ?bf ?bo ?bb ?bz HLEN2.out ?_; (case bx => rw [World.size_alloc]; rfl); (case bf => exact fun k hk => (HI.out.fresh (le_of_alloc HSM.out hk)).1.1); (case bo => exact (HIm.out.alloc _).rn); (case bb => exact (HIm.out.alloc _).bel); (case bz => exact (HIm.out.alloc _).bel.size); intro v1 w2 hr1 hb3 hg1 hat1; obtain ⟨Ap, np, cp, rfl⟩ : ∃ A' n' c', v1 = Value.slice A' n' c' := (by obtain ⟨A, c, h⟩ := Kd.R_slice hr1; exact ⟨_, _, _, h⟩); have HI2 := Aside0.mk ((HIm.out.alloc _).name hr1 hb3 hg1 hat1); have HM4 := Aside0.mk ((HIm.out.alloc _).name_box (heap_alloc_new w0 _) (Nat.le_refl _) HIm.out hg1 (.slice Ap np cp)); have o2 : w2.cell? ⟨W.heap.size, 2, none⟩ = some (.slice An nn cn) := (blk_cell ((HIm.out.alloc _).name_old hg1) 2).trans rfl; have q2' := blk_frozen ((HIm.out.alloc _).name_old hg1) 2; have xn0 := HI2.out.cell 0 _ rfl; have xn1 := HI2.out.cell 1 _ rfl; have xn2 := HI2.out.cell 2 _ rfl; have xn3 := HI2.out.cell 3 _ rfl; obtain ⟨m0, m1, m2, m3, m4, m5, m6⟩ := got_cells HM4.out; clear hr1 hb3 hg1 hat1) | (go_at_call 30; (with_reducible refine (HVC.out _).mono ?_); intro e w1 hv; obtain ⟨her, A2, c2, A3, c3, rfl, hr2, hr3, hbl⟩ := hv; have e1 : ((er : Int) != 0) = true := bne_iff_ne.mpr (nz_int her); have HER := Aside0.mk her; have HI1 := Aside0.mk (HI2.out.below hbl); have HR2 := Aside0.mk hr2; have HR3 := Aside0.mk hr3; have kb0 := fun (ob : Obj) => HI1.out.cellA ob 0 _ rfl; have kb1 := fun (ob : Obj) => HI1.out.cellA ob 1 _ rfl; have kb2 := fun (ob : Obj) => HI1.out.cellA ob 2 _ rfl; have kb3 := fun (ob : Obj) => HI1.out.cellA ob 3 _ rfl; have u0 := fun (ob : Obj) => (got_cells (HI1.out.alloc ob).res).1; have u1 := fun (ob : Obj) => (got_cells (HI1.out.alloc ob).res).2.1; have u2 := fun (ob : Obj) => (got_cells (HI1.out.alloc ob).res).2.2.1; have u3 := fun (ob : Obj) => (got_cells (HI1.out.alloc ob).res).2.2.2.1; have u4 := fun (ob : Obj) => (got_cells (HI1.out.alloc ob).res).2.2.2.2.1; have u5 := fun (ob : Obj) => (got_cells (HI1.out.alloc ob).res).2.2.2.2.2.1; have u6 := fun (ob : Obj) => (got_cells (HI1.out.alloc ob).res).2.2.2.2.2.2; have t0 := fun (ob : Obj) => (got_thaw (HI1.out.alloc ob).res).1; have t1 := fun (ob : Obj) => (got_thaw (HI1.out.alloc ob).res).2.1; have t2 := fun (ob : Obj) => (got_thaw (HI1.out.alloc ob).res).2.2.1; have t3 := fun (ob : Obj) => (got_thaw (HI1.out.alloc ob).res).2.2.2.1; have t4 := fun (ob : Obj) => (got_thaw (HI1.out.alloc ob).res).2.2.2.2.1; have t5 := fun (ob : Obj) => (got_thaw (HI1.out.alloc ob).res).2.2.2.2.2.1; have t6 := fun (ob : Obj) => (got_thaw (HI1.out.alloc ob).res).2.2.2.2.2.2; clear her hr2 hr3 hbl))
            refine bodyPost_ret (results_cell_row rfl _ _ (W.heap.size + 1) 53 _ (0, 0) _ rfl (GotV.mkR (HI1.out.alloc _).bel (Nat.le_succ _) (HI1.out.alloc _).res 0 ⟨#[]⟩ 0 (er : Int) (pp : Int) (Kd.R_alloc HR2.out _) (Kd.R_alloc HR3.out _) (HI2.out.big) (HI2.out.big)).1 Tryd.underlying53 rfl (by kernel_rfl)) rfl ?_
            rw [HOE.out]
            exact ⟨HER.out, (GotV.mkR (HI1.out.alloc _).bel (Nat.le_succ _) (HI1.out.alloc _).res 0 ⟨#[]⟩ 0 (er : Int) (pp : Int) (Kd.R_alloc HR2.out _) (Kd.R_alloc HR3.out _) (HI2.out.big) (HI2.out.big)).2⟩
          · have HMC := Aside0.mk (HMM.out _ hm)
            have hqm := memF_val hm
            rw [HSS.out] at hqm
            obtain ⟨hqm1, hqm2⟩ := hqm
            have HVC := Aside0.mk (HVV.out qm _ hqm2 hv)
            have hq := valueF_val s.data.toList (k + 1) r qm q1 j (by rw [HSS.out]; exact hqm2) hv
            rw [HSS.out] at hq
            obtain ⟨hq1, hq2⟩ := hq
            have hbl := blanks_le s.data.toList q1 (by rw [HSS.out]; exact hq2)
            rw [HSS.out] at hbl
            have hbg := blanks_ge s.data.toList q1
            clear hm hv
            generalize hbe : blanksF s.data.toList q1 = bq at *
            have HBE := Aside0.mk hbe
            have HBQ := Aside0.mk (show q1 ≤ 4611686018427387904 by omega)
            have HLEN := Aside0.mk (show (ys.length + 1) * 72 ≤ 140737488355328 by omega)
            have p3 : (0 ≤ (bq : Int)) = True := eq_true (by omega)
            clear hbe
            rcases hT with ⟨hc, hoe⟩ | ⟨c, hc, hcc⟩
            · have hend : s.size ≤ bq := by rw [List.getElem?_eq_none_iff, size_data] at hc; exact hc
              have HOE := Aside0.mk (show o = .err 3 s.size by rw [hoe, size_data])
              have HM := Aside0.mk (show mustO s.data.toList bq = .err 3 s.size by rw [mustO_short (by rw [size_data]; exact hend), size_data])
              have h2 : decide (s.size ≤ bq) = true := decide_eq_true hend
              have h3 : decide (bq < s.size) = false := decide_eq_false (by omega)
              have h4 : ((bq : Int) < (s.size : Int)) = False := eq_false (by omega)
              clear hc hoe hend
              go_wp2_with (first | (go_at_call 74; (with_reducible refine (HMC.out).mono ?_); intro e w0 hv; obtain ⟨x, rfl, A5, c5, A6, c6, hx, hr5, hr6, hbm⟩ := hv; injection hx with hx; subst hx; have HIm := Aside0.mk (HI.out.below hbm); have ka0 := fun (ob : Obj) => HIm.out.cellA ob 0 _ rfl; have ka1 := fun (ob : Obj) => HIm.out.cellA ob 1 _ rfl; have ka2 := fun (ob : Obj) => HIm.out.cellA ob 2 _ rfl; have ka3 := fun (ob : Obj) => HIm.out.cellA ob 3 _ rfl; have HSM := Aside0.mk hbm.size; clear hr5 hr6 hbm) | (at_builtin; refine Kd.R_append Kd.string (w0 := W) W.heap.size rfl (.tmp 50) (.tmp 52) 22 9 (.string ⟨#[]⟩) 16 rfl Tryd.underlying22 info9 rfl (by decide) (by decide) (.slice An nn cn) ns (bsJ nm) [.string (bsJ nm)] (fun k => W.heap.size + 2 ≤ k) (fun _ => False) rfl ?bx rfl (fun _ h => h.elim) ?bf ?bo ?bb ?bz HLEN2.out ?_; (case bx => rw [World.size_alloc]; rfl); (case bf => exact fun k hk => (HI.out.fresh (le_of_alloc HSM.out hk)).1.1); (case bo => exact (HIm.out.alloc _).rn); (case bb => exact (HIm.out.alloc _).bel); (case bz => exact (HIm.out.alloc _).bel.size); intro v1 w2 hr1 hb3 hg1 hat1; obtain ⟨Ap, np, cp, rfl⟩ : ∃ A' n' c', v1 = Value.slice A' n' c' := (by obtain ⟨A, c, h⟩ := Kd.R_slice hr1; exact ⟨_, _, _, h⟩); have HI2 := Aside0.mk ((HIm.out.alloc _).name hr1 hb3 hg1 hat1); have HM4 := Aside0.mk ((HIm.out.alloc _).name_box (heap_alloc_new w0 _) (Nat.le_refl _) HIm.out hg1 (.slice Ap np cp)); have o2 : w2.cell? ⟨W.heap.size, 2, none⟩ = some (.slice An nn cn) := (blk_cell ((HIm.out.alloc _).name_old hg1) 2).trans rfl; have q2' := blk_frozen ((HIm.out.alloc _).name_old hg1) 2; have xn0 := HI2.out.cell 0 _ rfl; have xn1 := HI2.out.cell 1 _ rfl; have xn2 := HI2.out.cell 2 _ rfl; have xn3 := HI2.out.cell 3 _ rfl; obtain ⟨m0, m1, m2, m3, m4, m5, m6⟩ := got_cells HM4.out; clear hr1 hb3 hg1 hat1) | (go_at_call 30; (with_reducible refine (HVC.out _).mono ?_); intro e w1 hv; obtain ⟨A2, c2, A3, c3, rfl, hr2, hr3, hbl⟩ := hv; have HI1 := Aside0.mk (HI2.out.below hbl); have HR2 := Aside0.mk hr2; have HR3 := Aside0.mk hr3; have kb0 := fun (ob : Obj) => HI1.out.cellA ob 0 _ rfl; have kb1 := fun (ob : Obj) => HI1.out.cellA ob 1 _ rfl; have kb2 := fun (ob : Obj) => HI1.out.cellA ob 2 _ rfl; have kb3 := fun (ob : Obj) => HI1.out.cellA ob 3 _ rfl; have HSZ := Aside0.mk hbl.size; clear hr2 hr3 hbl) | (at_builtin; refine Kd.R_append k25 (w0 := W) W.heap.size rfl (.tmp 67) (.tmp 70) 23 25 (.agg #[.int .i64 0, .string ⟨#[]⟩, .slice none 0 0, .slice none 0 0]) 72 rfl Tryd.underlying23 info25 rfl (by decide) (by decide) (.slice Av nv cv) ys j [.int .i64 j.f0, .string j.f1, .slice A2 j.f2.length c2, .slice A3 j.f3.length c3] (fun k => W.heap.size + 2 ≤ k ∧ some k ≠ (Value.slice Ap np cp).ownBlock) (fun b => (w2.setCell ⟨W.heap.size, 2, none⟩ (Value.slice Ap np cp)).heap.size ≤ b) rfl ?ax ?am ?ak ?af ?ao ?ab ?az HLEN.out ?_; (case ax => rw [World.size_alloc]; rfl); (case am => exact jV_M (Kd.R_alloc HR2.out _) (Kd.R_alloc HR3.out _) HI2.out.bel.size (Nat.le_refl _)); (case ak => exact fun k hk => HI2.out.fresh hk); (case af => exact fun k hk => (HI2.out.fresh (le_of_alloc HSZ.out hk)).1); (case ao => exact (HI1.out.alloc _).rv); (case ab => exact (HI1.out.alloc _).bel); (case az => exact (HI1.out.alloc _).bel.size); intro v1 w3 hr1 hb3 hg1 hat1; obtain ⟨Aw, nw, cw, rfl⟩ : ∃ A' n' c', v1 = Value.slice A' n' c' := (by obtain ⟨A, c, h⟩ := Kd.R_slice hr1; exact ⟨_, _, _, h⟩); have HI4 := Aside0.mk ((HI1.out.alloc _).item hr1 hb3 hg1); have HG4 := Aside0.mk ((HI1.out.alloc _).item_box (heap_alloc_new w1 _) (Nat.le_refl _) HI1.out hg1 (.slice Aw nw cw)); have o3 : w3.cell? ⟨W.heap.size, 3, none⟩ = some (.slice Av nv cv) := (blk_cell ((HI1.out.alloc _).item_old hg1) 3).trans rfl; have q3 := blk_frozen ((HI1.out.alloc _).item_old hg1) 3; have x0 := HI4.out.cell 0 _ rfl; have x1 := HI4.out.cell 1 _ rfl; have x2 := HI4.out.cell 2 _ rfl; have x3 := HI4.out.cell 3 _ rfl; obtain ⟨y0, y1, y2, y3, y4, y5, y6⟩ := got_cells HG4.out; obtain ⟨u0, u1, u2, u3, u4, u5, u6⟩ := got_cells HI4.out.res; obtain ⟨t0, t1, t2, t3, t4, t5, t6⟩ := got_thaw HI4.out.res; clear hr1 hb3 hg1 hat1) | (go_at_call 31; (with_reducible refine (rblanks_calls s q1 _ hs HBQ.out).mono ?_); rintro e w5 ⟨rfl, rfl⟩; rw [HBE.out]) | (go_at_call 70; (with_reducible refine (rmust_calls s bq _).mono ?_); intro e w9 hv; rw [HM.out] at hv; obtain ⟨_, hv⟩ := hv; obtain ⟨A7, c7, A8, c8, rfl, hb1, hbk, hfin⟩ := GotV.put HI4.out.bel (Nat.le_succ _) HI4.out.res hv; have HBK := Aside0.mk hbk; have HFIN := Aside0.mk hfin; obtain ⟨z0, z1, z2, z3, z4, z5, z6⟩ := got_cells hb1; obtain ⟨g0, g1, g2, g3, g4, g5, g6⟩ := got_thaw hb1; clear hv hb1 hbk hfin))
              refine bodyPost_ret (results_cell_row rfl _ _ (W.heap.size + 1) 53 _ (0, 0) _ rfl HBK.out Tryd.underlying53 rfl (by kernel_rfl)) rfl ?_
              rw [HOE.out]
              exact ⟨by decide, HFIN.out⟩
            · obtain ⟨hlt, hcb⟩ := List.getElem?_eq_some_iff.1 hc
              rw [size_data] at hlt
              have hx : ∀ h : bq < s.size, s[bq]'h = c := fun h => hcb
              have h2 : decide (s.size ≤ bq) = false := decide_eq_false (by omega)
              have h3 : decide (bq < s.size) = true := decide_eq_true hlt
              have p4 : ((bq : Int) < (s.size : Int)) = True := eq_true (by omega)
              have HL := Aside0.mk hlt
              clear hc hcb
              rcases hcc with ⟨hc1, hoe⟩ | ⟨hc1, hc2, hoe⟩ | ⟨hc1, hc2, hoe⟩
              · have e5 : ((c.toNat : Int) == 125) = true := beq_iff_eq.mpr ((u8_eq c 125).1 hc1)
                have HOE := Aside0.mk hoe
                clear hc1 hoe hlt
                go_wp2_with (first | (go_at_call 74; (with_reducible refine (HMC.out).mono ?_); intro e w0 hv; obtain ⟨x, rfl, A5, c5, A6, c6, hx, hr5, hr6, hbm⟩ := hv; injection hx with hx; subst hx; have HIm := Aside0.mk (HI.out.below hbm); have ka0 := fun (ob : Obj) => HIm.out.cellA ob 0 _ rfl; have ka1 := fun (ob : Obj) => HIm.out.cellA ob 1 _ rfl; have ka2 := fun (ob : Obj) => HIm.out.cellA ob 2 _ rfl; have ka3 := fun (ob : Obj) => HIm.out.cellA ob 3 _ rfl; have HSM := Aside0.mk hbm.size; clear hr5 hr6 hbm) | (at_builtin; refine Kd.R_append Kd.string (w0 := W) W.heap.size rfl (.tmp 50) (.tmp 52) 22 9 (.string ⟨#[]⟩) 16 rfl Tryd.underlying22 info9 rfl (by decide) (by decide) (.slice An nn cn) ns (bsJ nm) [.string (bsJ nm)] (fun k => W.heap.size + 2 ≤ k) (fun _ => False) rfl ?bx rfl (fun _ h => h.elim) ?bf ?bo ?bb ?bz HLEN2.out ?_; (case bx => rw [World.size_alloc]; rfl); (case bf => exact fun k hk => (HI.out.fresh (le_of_alloc HSM.out hk)).1.1); (case bo => exact (HIm.out.alloc _).rn); (case bb => exact (HIm.out.alloc _).bel); (case bz => exact (HIm.out.alloc _).bel.size); intro v1 w2 hr1 hb3 hg1 hat1; obtain ⟨Ap, np, cp, rfl⟩ : ∃ A' n' c', v1 = Value.slice A' n' c' := (by obtain ⟨A, c, h⟩ := Kd.R_slice hr1; exact ⟨_, _, _, h⟩); have HI2 := Aside0.mk ((HIm.out.alloc _).name hr1 hb3 hg1 hat1); have HM4 := Aside0.mk ((HIm.out.alloc _).name_box (heap_alloc_new w0 _) (Nat.le_refl _) HIm.out hg1 (.slice Ap np cp)); have o2 : w2.cell? ⟨W.heap.size, 2, none⟩ = some (.slice An nn cn) := (blk_cell ((HIm.out.alloc _).name_old hg1) 2).trans rfl; have q2' := blk_frozen ((HIm.out.alloc _).name_old hg1) 2; have xn0 := HI2.out.cell 0 _ rfl; have xn1 := HI2.out.cell 1 _ rfl; have xn2 := HI2.out.cell 2 _ rfl; have xn3 := HI2.out.cell 3 _ rfl; obtain ⟨m0, m1, m2, m3, m4, m5, m6⟩ := got_cells HM4.out; clear hr1 hb3 hg1 hat1) | (go_at_call 30; (with_reducible refine (HVC.out _).mono ?_); intro e w1 hv; obtain ⟨A2, c2, A3, c3, rfl, hr2, hr3, hbl⟩ := hv; have HI1 := Aside0.mk (HI2.out.below hbl); have HR2 := Aside0.mk hr2; have HR3 := Aside0.mk hr3; have kb0 := fun (ob : Obj) => HI1.out.cellA ob 0 _ rfl; have kb1 := fun (ob : Obj) => HI1.out.cellA ob 1 _ rfl; have kb2 := fun (ob : Obj) => HI1.out.cellA ob 2 _ rfl; have kb3 := fun (ob : Obj) => HI1.out.cellA ob 3 _ rfl; have HSZ := Aside0.mk hbl.size; clear hr2 hr3 hbl) | (at_builtin; refine Kd.R_append k25 (w0 := W) W.heap.size rfl (.tmp 67) (.tmp 70) 23 25 (.agg #[.int .i64 0, .string ⟨#[]⟩, .slice none 0 0, .slice none 0 0]) 72 rfl Tryd.underlying23 info25 rfl (by decide) (by decide) (.slice Av nv cv) ys j [.int .i64 j.f0, .string j.f1, .slice A2 j.f2.length c2, .slice A3 j.f3.length c3] (fun k => W.heap.size + 2 ≤ k ∧ some k ≠ (Value.slice Ap np cp).ownBlock) (fun b => (w2.setCell ⟨W.heap.size, 2, none⟩ (Value.slice Ap np cp)).heap.size ≤ b) rfl ?ax ?am ?ak ?af ?ao ?ab ?az HLEN.out ?_; (case ax => rw [World.size_alloc]; rfl); (case am => exact jV_M (Kd.R_alloc HR2.out _) (Kd.R_alloc HR3.out _) HI2.out.bel.size (Nat.le_refl _)); (case ak => exact fun k hk => HI2.out.fresh hk); (case af => exact fun k hk => (HI2.out.fresh (le_of_alloc HSZ.out hk)).1); (case ao => exact (HI1.out.alloc _).rv); (case ab => exact (HI1.out.alloc _).bel); (case az => exact (HI1.out.alloc _).bel.size); intro v1 w3 hr1 hb3 hg1 hat1; obtain ⟨Aw, nw, cw, rfl⟩ : ∃ A' n' c', v1 = Value.slice A' n' c' := (by obtain ⟨A, c, h⟩ := Kd.R_slice hr1; exact ⟨_, _, _, h⟩); have HI4 := Aside0.mk ((HI1.out.alloc _).item hr1 hb3 hg1); have HG4 := Aside0.mk ((HI1.out.alloc _).item_box (heap_alloc_new w1 _) (Nat.le_refl _) HI1.out hg1 (.slice Aw nw cw)); have o3 : w3.cell? ⟨W.heap.size, 3, none⟩ = some (.slice Av nv cv) := (blk_cell ((HI1.out.alloc _).item_old hg1) 3).trans rfl; have q3 := blk_frozen ((HI1.out.alloc _).item_old hg1) 3; have x0 := HI4.out.cell 0 _ rfl; have x1 := HI4.out.cell 1 _ rfl; have x2 := HI4.out.cell 2 _ rfl; have x3 := HI4.out.cell 3 _ rfl; obtain ⟨y0, y1, y2, y3, y4, y5, y6⟩ := got_cells HG4.out; obtain ⟨u0, u1, u2, u3, u4, u5, u6⟩ := got_cells HI4.out.res; obtain ⟨t0, t1, t2, t3, t4, t5, t6⟩ := got_thaw HI4.out.res; clear hr1 hb3 hg1 hat1) | (go_at_call 31; (with_reducible refine (rblanks_calls s q1 _ hs HBQ.out).mono ?_); rintro e w5 ⟨rfl, rfl⟩; rw [HBE.out]))
                obtain ⟨hbk, hfin⟩ := HI4.out.final ((bq : Int) + 1)
                have HBK := Aside0.mk hbk
                have HFIN := Aside0.mk hfin
                clear hbk hfin
                refine bodyPost_ret (results_cell_row rfl _ _ (W.heap.size + 1) 53 _ (0, 0) _ rfl HBK.out Tryd.underlying53 rfl (by kernel_rfl)) rfl ?_
                rw [HOE.out]
                show GotV _ _ _ _ _ _ _ _ _ _
                rw [← cast1 bq]
                exact HFIN.out
              · have e5 : ((c.toNat : Int) == 125) = false := beq_eq_false_iff_ne.mpr (fun hh => hc1 ((u8_eq c 125).2 hh))
                have e6 : ((c.toNat : Int) != 44) = false := by rw [bne_eq_false_iff_eq]; exact (u8_eq c 44).1 hc2
                have HB1 := Aside0.mk (show bq + 1 ≤ 4611686018427387904 by omega)
                have hb2 := blanks_le s.data.toList (bq + 1) (by rw [size_data]; omega)
                rw [size_data] at hb2
                have hb3 := blanks_ge s.data.toList (bq + 1)
                have HLL := Aside0.mk hoe
                have HLN := Aside0.mk (show (ys ++ [j]).length ≤ blanksF s.data.toList (bq + 1) by rw [List.length_append]; show ys.length + 1 ≤ _; omega)
                have HNN := Aside0.mk (show (ns ++ [bsJ nm]).length ≤ blanksF s.data.toList (bq + 1) by rw [List.length_append]; show ns.length + 1 ≤ _; omega)
                clear hc1 hc2 hoe hlt hb3
                generalize hbb : blanksF s.data.toList (bq + 1) = b2 at *
                have HB2E := Aside0.mk hbb
                clear hbb
                have w3e := cast1 bq
                have hb1 := HB1.out
                generalize bq + 1 = b1 at *
                go_wp2_with (first | (go_at_call 74; (with_reducible refine (HMC.out).mono ?_); intro e w0 hv; obtain ⟨x, rfl, A5, c5, A6, c6, hx, hr5, hr6, hbm⟩ := hv; injection hx with hx; subst hx; have HIm := Aside0.mk (HI.out.below hbm); have ka0 := fun (ob : Obj) => HIm.out.cellA ob 0 _ rfl; have ka1 := fun (ob : Obj) => HIm.out.cellA ob 1 _ rfl; have ka2 := fun (ob : Obj) => HIm.out.cellA ob 2 _ rfl; have ka3 := fun (ob : Obj) => HIm.out.cellA ob 3 _ rfl; have HSM := Aside0.mk hbm.size; clear hr5 hr6 hbm) | (at_builtin; refine Kd.R_append Kd.string (w0 := W) W.heap.size rfl (.tmp 50) (.tmp 52) 22 9 (.string ⟨#[]⟩) 16 rfl Tryd.underlying22 info9 rfl (by decide) (by decide) (.slice An nn cn) ns (bsJ nm) [.string (bsJ nm)] (fun k => W.heap.size + 2 ≤ k) (fun _ => False) rfl ?bx rfl (fun _ h => h.elim) ?bf ?bo ?bb ?bz HLEN2.out ?_; (case bx => rw [World.size_alloc]; rfl); (case bf => exact fun k hk => (HI.out.fresh (le_of_alloc HSM.out hk)).1.1); (case bo => exact (HIm.out.alloc _).rn); (case bb => exact (HIm.out.alloc _).bel); (case bz => exact (HIm.out.alloc _).bel.size); intro v1 w2 hr1 hb3 hg1 hat1; obtain ⟨Ap, np, cp, rfl⟩ : ∃ A' n' c', v1 = Value.slice A' n' c' := (by obtain ⟨A, c, h⟩ := Kd.R_slice hr1; exact ⟨_, _, _, h⟩); have HI2 := Aside0.mk ((HIm.out.alloc _).name hr1 hb3 hg1 hat1); have HM4 := Aside0.mk ((HIm.out.alloc _).name_box (heap_alloc_new w0 _) (Nat.le_refl _) HIm.out hg1 (.slice Ap np cp)); have o2 : w2.cell? ⟨W.heap.size, 2, none⟩ = some (.slice An nn cn) := (blk_cell ((HIm.out.alloc _).name_old hg1) 2).trans rfl; have q2' := blk_frozen ((HIm.out.alloc _).name_old hg1) 2; have xn0 := HI2.out.cell 0 _ rfl; have xn1 := HI2.out.cell 1 _ rfl; have xn2 := HI2.out.cell 2 _ rfl; have xn3 := HI2.out.cell 3 _ rfl; obtain ⟨m0, m1, m2, m3, m4, m5, m6⟩ := got_cells HM4.out; clear hr1 hb3 hg1 hat1) | (go_at_call 30; (with_reducible refine (HVC.out _).mono ?_); intro e w1 hv; obtain ⟨A2, c2, A3, c3, rfl, hr2, hr3, hbl⟩ := hv; have HI1 := Aside0.mk (HI2.out.below hbl); have HR2 := Aside0.mk hr2; have HR3 := Aside0.mk hr3; have kb0 := fun (ob : Obj) => HI1.out.cellA ob 0 _ rfl; have kb1 := fun (ob : Obj) => HI1.out.cellA ob 1 _ rfl; have kb2 := fun (ob : Obj) => HI1.out.cellA ob 2 _ rfl; have kb3 := fun (ob : Obj) => HI1.out.cellA ob 3 _ rfl; have HSZ := Aside0.mk hbl.size; clear hr2 hr3 hbl) | (at_builtin; refine Kd.R_append k25 (w0 := W) W.heap.size rfl (.tmp 67) (.tmp 70) 23 25 (.agg #[.int .i64 0, .string ⟨#[]⟩, .slice none 0 0, .slice none 0 0]) 72 rfl Tryd.underlying23 info25 rfl (by decide) (by decide) (.slice Av nv cv) ys j [.int .i64 j.f0, .string j.f1, .slice A2 j.f2.length c2, .slice A3 j.f3.length c3] (fun k => W.heap.size + 2 ≤ k ∧ some k ≠ (Value.slice Ap np cp).ownBlock) (fun b => (w2.setCell ⟨W.heap.size, 2, none⟩ (Value.slice Ap np cp)).heap.size ≤ b) rfl ?ax ?am ?ak ?af ?ao ?ab ?az HLEN.out ?_; (case ax => rw [World.size_alloc]; rfl); (case am => exact jV_M (Kd.R_alloc HR2.out _) (Kd.R_alloc HR3.out _) HI2.out.bel.size (Nat.le_refl _)); (case ak => exact fun k hk => HI2.out.fresh hk); (case af => exact fun k hk => (HI2.out.fresh (le_of_alloc HSZ.out hk)).1); (case ao => exact (HI1.out.alloc _).rv); (case ab => exact (HI1.out.alloc _).bel); (case az => exact (HI1.out.alloc _).bel.size); intro v1 w3 hr1 hb3 hg1 hat1; obtain ⟨Aw, nw, cw, rfl⟩ : ∃ A' n' c', v1 = Value.slice A' n' c' := (by obtain ⟨A, c, h⟩ := Kd.R_slice hr1; exact ⟨_, _, _, h⟩); have HI4 := Aside0.mk ((HI1.out.alloc _).item hr1 hb3 hg1); have HG4 := Aside0.mk ((HI1.out.alloc _).item_box (heap_alloc_new w1 _) (Nat.le_refl _) HI1.out hg1 (.slice Aw nw cw)); have o3 : w3.cell? ⟨W.heap.size, 3, none⟩ = some (.slice Av nv cv) := (blk_cell ((HI1.out.alloc _).item_old hg1) 3).trans rfl; have q3 := blk_frozen ((HI1.out.alloc _).item_old hg1) 3; have x0 := HI4.out.cell 0 _ rfl; have x1 := HI4.out.cell 1 _ rfl; have x2 := HI4.out.cell 2 _ rfl; have x3 := HI4.out.cell 3 _ rfl; obtain ⟨y0, y1, y2, y3, y4, y5, y6⟩ := got_cells HG4.out; obtain ⟨u0, u1, u2, u3, u4, u5, u6⟩ := got_cells HI4.out.res; obtain ⟨t0, t1, t2, t3, t4, t5, t6⟩ := got_thaw HI4.out.res; clear hr1 hb3 hg1 hat1) | (go_at_call 31; (with_reducible refine (rblanks_calls s q1 _ hs HBQ.out).mono ?_); rintro e w5 ⟨rfl, rfl⟩; rw [HBE.out]) | (go_at_call 31; (with_reducible refine (rblanks_calls s b1 _ hs HB1.out).mono ?_); rintro e w5 ⟨rfl, rfl⟩; rw [HB2E.out]))
                clear w3e
                go_roundg g
                case measure => omega
                case rel => exact ⟨ns ++ [bsJ nm], ys ++ [j], b2, Ap, np, cp, Aw, nw, cw, rfl, hb2, HLN.out, HNN.out, HI4, HLL⟩
              · have e5 : ((c.toNat : Int) == 125) = false := beq_eq_false_iff_ne.mpr (fun hh => hc1 ((u8_eq c 125).2 hh))
                have e6 : ((c.toNat : Int) != 44) = true := bne_iff_ne.mpr (fun hh => hc2 ((u8_eq c 44).2 hh))
                have HOE := Aside0.mk hoe
                have HM := Aside0.mk (show mustO s.data.toList bq = .err 40 bq by rw [mustO_bad (by rw [size_data]; omega)])
                clear hc1 hc2 hoe hlt
                go_wp2_with (first | (go_at_call 74; (with_reducible refine (HMC.out).mono ?_); intro e w0 hv; obtain ⟨x, rfl, A5, c5, A6, c6, hx, hr5, hr6, hbm⟩ := hv; injection hx with hx; subst hx; have HIm := Aside0.mk (HI.out.below hbm); have ka0 := fun (ob : Obj) => HIm.out.cellA ob 0 _ rfl; have ka1 := fun (ob : Obj) => HIm.out.cellA ob 1 _ rfl; have ka2 := fun (ob : Obj) => HIm.out.cellA ob 2 _ rfl; have ka3 := fun (ob : Obj) => HIm.out.cellA ob 3 _ rfl; have HSM := Aside0.mk hbm.size; clear hr5 hr6 hbm) | (at_builtin; refine Kd.R_append Kd.string (w0 := W) W.heap.size rfl (.tmp 50) (.tmp 52) 22 9 (.string ⟨#[]⟩) 16 rfl Tryd.underlying22 info9 rfl (by decide) (by decide) (.slice An nn cn) ns (bsJ nm) [.string (bsJ nm)] (fun k => W.heap.size + 2 ≤ k) (fun _ => False) rfl ?bx rfl (fun _ h => h.elim) ?bf ?bo ?bb ?bz HLEN2.out ?_; (case bx => rw [World.size_alloc]; rfl); (case bf => exact fun k hk => (HI.out.fresh (le_of_alloc HSM.out hk)).1.1); (case bo => exact (HIm.out.alloc _).rn); (case bb => exact (HIm.out.alloc _).bel); (case bz => exact (HIm.out.alloc _).bel.size); intro v1 w2 hr1 hb3 hg1 hat1; obtain ⟨Ap, np, cp, rfl⟩ : ∃ A' n' c', v1 = Value.slice A' n' c' := (by obtain ⟨A, c, h⟩ := Kd.R_slice hr1; exact ⟨_, _, _, h⟩); have HI2 := Aside0.mk ((HIm.out.alloc _).name hr1 hb3 hg1 hat1); have HM4 := Aside0.mk ((HIm.out.alloc _).name_box (heap_alloc_new w0 _) (Nat.le_refl _) HIm.out hg1 (.slice Ap np cp)); have o2 : w2.cell? ⟨W.heap.size, 2, none⟩ = some (.slice An nn cn) := (blk_cell ((HIm.out.alloc _).name_old hg1) 2).trans rfl; have q2' := blk_frozen ((HIm.out.alloc _).name_old hg1) 2; have xn0 := HI2.out.cell 0 _ rfl; have xn1 := HI2.out.cell 1 _ rfl; have xn2 := HI2.out.cell 2 _ rfl; have xn3 := HI2.out.cell 3 _ rfl; obtain ⟨m0, m1, m2, m3, m4, m5, m6⟩ := got_cells HM4.out; clear hr1 hb3 hg1 hat1) | (go_at_call 30; (with_reducible refine (HVC.out _).mono ?_); intro e w1 hv; obtain ⟨A2, c2, A3, c3, rfl, hr2, hr3, hbl⟩ := hv; have HI1 := Aside0.mk (HI2.out.below hbl); have HR2 := Aside0.mk hr2; have HR3 := Aside0.mk hr3; have kb0 := fun (ob : Obj) => HI1.out.cellA ob 0 _ rfl; have kb1 := fun (ob : Obj) => HI1.out.cellA ob 1 _ rfl; have kb2 := fun (ob : Obj) => HI1.out.cellA ob 2 _ rfl; have kb3 := fun (ob : Obj) => HI1.out.cellA ob 3 _ rfl; have HSZ := Aside0.mk hbl.size; clear hr2 hr3 hbl) | (at_builtin; refine Kd.R_append k25 (w0 := W) W.heap.size rfl (.tmp 67) (.tmp 70) 23 25 (.agg #[.int .i64 0, .string ⟨#[]⟩, .slice none 0 0, .slice none 0 0]) 72 rfl Tryd.underlying23 info25 rfl (by decide) (by decide) (.slice Av nv cv) ys j [.int .i64 j.f0, .string j.f1, .slice A2 j.f2.length c2, .slice A3 j.f3.length c3] (fun k => W.heap.size + 2 ≤ k ∧ some k ≠ (Value.slice Ap np cp).ownBlock) (fun b => (w2.setCell ⟨W.heap.size, 2, none⟩ (Value.slice Ap np cp)).heap.size ≤ b) rfl ?ax ?am ?ak ?af ?ao ?ab ?az HLEN.out ?_; (case ax => rw [World.size_alloc]; rfl); (case am => exact jV_M (Kd.R_alloc HR2.out _) (Kd.R_alloc HR3.out _) HI2.out.bel.size (Nat.le_refl _)); (case ak => exact fun k hk => HI2.out.fresh hk); (case af => exact fun k hk => (HI2.out.fresh (le_of_alloc HSZ.out hk)).1); (case ao => exact (HI1.out.alloc _).rv); (case ab => exact (HI1.out.alloc _).bel); (case az => exact (HI1.out.alloc _).bel.size); intro v1 w3 hr1 hb3 hg1 hat1; obtain ⟨Aw, nw, cw, rfl⟩ : ∃ A' n' c', v1 = Value.slice A' n' c' := (by obtain ⟨A, c, h⟩ := Kd.R_slice hr1; exact ⟨_, _, _, h⟩); have HI4 := Aside0.mk ((HI1.out.alloc _).item hr1 hb3 hg1); have HG4 := Aside0.mk ((HI1.out.alloc _).item_box (heap_alloc_new w1 _) (Nat.le_refl _) HI1.out hg1 (.slice Aw nw cw)); have o3 : w3.cell? ⟨W.heap.size, 3, none⟩ = some (.slice Av nv cv) := (blk_cell ((HI1.out.alloc _).item_old hg1) 3).trans rfl; have q3 := blk_frozen ((HI1.out.alloc _).item_old hg1) 3; have x0 := HI4.out.cell 0 _ rfl; have x1 := HI4.out.cell 1 _ rfl; have x2 := HI4.out.cell 2 _ rfl; have x3 := HI4.out.cell 3 _ rfl; obtain ⟨y0, y1, y2, y3, y4, y5, y6⟩ := got_cells HG4.out; obtain ⟨u0, u1, u2, u3, u4, u5, u6⟩ := got_cells HI4.out.res; obtain ⟨t0, t1, t2, t3, t4, t5, t6⟩ := got_thaw HI4.out.res; clear hr1 hb3 hg1 hat1) | (go_at_call 31; (with_reducible refine (rblanks_calls s q1 _ hs HBQ.out).mono ?_); rintro e w5 ⟨rfl, rfl⟩; rw [HBE.out]) | (go_at_call 70; (with_reducible refine (rmust_calls s bq _).mono ?_); intro e w9 hv; rw [HM.out] at hv; obtain ⟨_, hv⟩ := hv; obtain ⟨A7, c7, A8, c8, rfl, hb1, hbk, hfin⟩ := GotV.put HI4.out.bel (Nat.le_succ _) HI4.out.res hv; have HBK := Aside0.mk hbk; have HFIN := Aside0.mk hfin; obtain ⟨z0, z1, z2, z3, z4, z5, z6⟩ := got_cells hb1; obtain ⟨g0, g1, g2, g3, g4, g5, g6⟩ := got_thaw hb1; clear hv hb1 hbk hfin))
                refine bodyPost_ret (results_cell_row rfl _ _ (W.heap.size + 1) 53 _ (0, 0) _ rfl HBK.out Tryd.underlying53 rfl (by kernel_rfl)) rfl ?_
                rw [HOE.out]
                exact ⟨by decide, HFIN.out⟩)
end Go.Proofs.YtaalajhmfdcalaaDoor.X
namespace Go.Proofs.YtaalajhmfdcalaaDoor.X
open Go.RowKit Go.Lib Go.Proofs.YtaalajhmfdcalaaDoorW.PrintWords Go.Proofs.YtaalajhmfdcalaaDoorW.PrintLast Go.Proofs.YtaalajhmfdcalaaDoorW.PrintMore
theorem GotE.put {o : Out J} {W w0 w1 : World} {e : Ending} {g : Nat} {o0 o1 o2 o3 o4 o5 o6 : Value} (hW : Below W.heap.size W w0) (hg : W.heap.size ≤ g) (hb : w0.heap[g]? = some (.cells #[o0, o1, o2, o3, o4, o5, o6] 53 (0, 0))) (h : GotE o w0 e w1) :
    ∃ (k : Int) (t : ByteArray) (A2 : Option Addr) (n2 c2 : Nat) (A3 : Option Addr) (n3 c3 : Nat) (q er p : Int), e = .returned (.agg #[.int .i64 k, .string t, .slice A2 n2 c2, .slice A3 n3 c3, .int .i64 q, .int .i64 er, .int .i64 p]) ∧ w1.heap[g]? = some (.cells #[o0, o1, o2, o3, o4, o5, o6] 53 (0, 0)) ∧
      (set7 w1 g (.int .i64 k) (.string t) (.slice A2 n2 c2) (.slice A3 n3 c3) (.int .i64 q) (.int .i64 er) (.int .i64 p)).heap[g]? = some (.cells #[.int .i64 k, .string t, .slice A2 n2 c2, .slice A3 n3 c3, .int .i64 q, .int .i64 er, .int .i64 p] 53 (0, 0)) ∧
      GotE o W (.returned (.agg #[.int .i64 k, .string t, .slice A2 n2 c2, .slice A3 n3 c3, .int .i64 q, .int .i64 er, .int .i64 p])) (set7 w1 g (.int .i64 k) (.string t) (.slice A2 n2 c2) (.slice A3 n3 c3) (.int .i64 q) (.int .i64 er) (.int .i64 p)) := by
  cases o with
  | val j q =>
    obtain ⟨A2, c2, A3, c3, he, h1, h2, h3⟩ := GotV.put hW hg hb h
    exact ⟨_, _, _, _, _, _, _, _, _, _, _, he, h1, h2, h3⟩
  | err er p =>
    obtain ⟨hne, h⟩ := h
    obtain ⟨A2, c2, A3, c3, he, h1, h2, h3⟩ := GotV.put hW hg hb h
    exact ⟨_, _, _, _, _, _, _, _, _, _, _, he, h1, h2, hne, h3⟩
theorem bad_any {er p : Nat} (h : er ≠ 0) (w : World) : Calls Tryd.prog 45 #[.int .i64 (er : Int), .int .i64 (p : Int)] w (GotE (.err er p) w) := (rbad_calls er p w).mono fun _ _ hv => ⟨h, hv⟩
theorem valueF_at {s : List UInt8} {k r p : Nat} {c : UInt8} (h : s[p]? = some c) : valueF s k r p =
      if c = 110 then some ((wordF s [110, 117, 108, 108] p).map fun _ => ⟨0, bsJ [], [], []⟩)
      else if c = 116 then some ((wordF s [116, 114, 117, 101] p).map fun _ => ⟨2, bsJ [], [], []⟩)
      else if c = 102 then some ((wordF s [102, 97, 108, 115, 101] p).map fun _ => ⟨1, bsJ [], [], []⟩)
      else if c = 45 ∨ isDg c = true then some ((numberF s p).map fun t => ⟨3, bsJ t, [], []⟩)
      else if c = 34 then (textF s k [] (p + 1)).map (Out.map fun t => ⟨4, bsJ t, [], []⟩)
      else if c = 91 ∨ c = 123 then
        match r with
        | 0 => some (.err 46 p)
        | r + 1 =>
          if c = 91 then (sevF (oneI (valueF s k r)) s 93 k [] p).map (Out.map fun a => ⟨5, bsJ [], [], a⟩)
          else (sevF (oneM (valueF s k r) s k) s 125 k ([], []) p).map (Out.map fun a => ⟨6, bsJ [], a.1, a.2⟩)
      else some (.err 40 p) := by
  cases r <;> (unfold valueF; rw [h])
set_option maxRecDepth 1000000 in
set_option maxHeartbeats 16000000 in
theorem rvalue_step (s : ByteArray) (k r : Nat) (d : Int) (hd : d = 32 - (r : Int)) (hr : r ≤ 32) (hs : s.size ≤ 4611686018427387904) (hs2 : s.size ≤ 1000000) (hS : ∀ q, q ≤ s.size → StrC s (k + 1) q) (IH : ∀ r', r' + 1 = r → VALC s (k + 1) r' (32 - (r' : Int))) : VALC s (k + 1) r d := by
  intro p o hp ho W
  have hd0 : 0 ≤ d := by omega
  have hd1 : d ≤ 32 := by omega
  by_cases hend : s.size ≤ p
  · have HO := Aside0.mk (show o = .err 3 s.size by
      rw [valueF_none (List.getElem?_eq_none (by rw [size_data]; exact hend)), size_data] at ho
      exact (Option.some.inj ho).symm)
    have h1 : decide (s.size ≤ p) = true := decide_eq_true hend
    have HC := Aside0.mk (show ∀ w, Calls Tryd.prog 45 #[.int .i64 3, .int .i64 (s.size : Int)] w (GotE (.err 3 s.size) w) from fun w => bad_any (er := 3) (p := s.size) (by decide) w)
    clear ho hend hd hd0 hd1 IH hS
    go_enter Tryd.func30, Tryd.ntmps30
    go_wp2_with (go_at_call 45; (with_reducible refine (HC.out _).mono ?_); intro e w1 hv; obtain ⟨k1, t1, A2, n2, c2, A3, n3, c3, q1, er1, pp1, rfl, hb1, hbk, hfin⟩ := GotE.put (below_alloc (Below.refl _ _) _) (Nat.le_refl _) (heap_alloc_new W _) hv; have HBK := Aside0.mk hbk; have HFIN := Aside0.mk hfin; obtain ⟨z0, z1, z2, z3, z4, z5, z6⟩ := got_cells hb1; obtain ⟨g0, g1, g2, g3, g4, g5, g6⟩ := got_thaw hb1; clear hv hb1 hbk hfin)
    refine bodyPost_ret (results_cell_row rfl _ _ W.heap.size 53 _ (0, 0) _ rfl HBK.out Tryd.underlying53 rfl (by kernel_rfl)) rfl ?_
    rw [HO.out]
    exact HFIN.out
  have hlt : p < s.size := by omega
  obtain ⟨u, hu, hx⟩ := drop_at s p hlt
  rw [valueF_at (at_drop hu)] at ho
  have h1 : decide (s.size ≤ p) = false := decide_eq_false hend
  have p1 : (0 ≤ (p : Int)) = True := eq_true (by omega)
  have p2 : ((p : Int) < (s.size : Int)) = True := eq_true (by omega)
  clear hu hend
  by_cases h110 : u = 110
  · subst h110
    have HO := Aside0.mk (show o = (wordF s.data.toList [110, 117, 108, 108] p).map fun _ => ⟨0, ⟨#[]⟩, [], []⟩ by rw [if_pos rfl] at ho; exact (Option.some.inj ho).symm)
    have HC := Aside0.mk (show ∀ w, Calls Tryd.prog 46 #[.string s, .int .i64 (p : Int), .string ⟨#[110, 117, 108, 108]⟩, .int .i64 0] w (GotE ((wordF s.data.toList [110, 117, 108, 108] p).map fun _ => ⟨0, ⟨#[]⟩, [], []⟩) w) from fun w => rword_calls s ⟨#[110, 117, 108, 108]⟩ p 0 w hs hp (by decide))
    clear ho hd IH hS hlt
    go_enter Tryd.func30, Tryd.ntmps30
    go_wp2_with (go_at_call 46; (with_reducible refine (HC.out _).mono ?_); intro e w1 hv; obtain ⟨k1, t1, A2, n2, c2, A3, n3, c3, q1, er1, pp1, rfl, hb1, hbk, hfin⟩ := GotE.put (below_alloc (Below.refl _ _) _) (Nat.le_refl _) (heap_alloc_new W _) hv; have HBK := Aside0.mk hbk; have HFIN := Aside0.mk hfin; obtain ⟨z0, z1, z2, z3, z4, z5, z6⟩ := got_cells hb1; obtain ⟨g0, g1, g2, g3, g4, g5, g6⟩ := got_thaw hb1; clear hv hb1 hbk hfin)
    refine bodyPost_ret (results_cell_row rfl _ _ W.heap.size 53 _ (0, 0) _ rfl HBK.out Tryd.underlying53 rfl (by kernel_rfl)) rfl ?_
    rw [HO.out]
    exact HFIN.out
  rw [if_neg h110] at ho
  have b110 : ((u.toNat : Int) == 110) = false := beq_eq_false_iff_ne.mpr (fun hh => h110 ((u8_eq u 110).2 hh))
  by_cases h116 : u = 116
  · subst h116
    have HO := Aside0.mk (show o = (wordF s.data.toList [116, 114, 117, 101] p).map fun _ => ⟨2, ⟨#[]⟩, [], []⟩ by rw [if_pos rfl] at ho; exact (Option.some.inj ho).symm)
    have HC := Aside0.mk (show ∀ w, Calls Tryd.prog 46 #[.string s, .int .i64 (p : Int), .string ⟨#[116, 114, 117, 101]⟩, .int .i64 2] w (GotE ((wordF s.data.toList [116, 114, 117, 101] p).map fun _ => ⟨2, ⟨#[]⟩, [], []⟩) w) from fun w => rword_calls s ⟨#[116, 114, 117, 101]⟩ p 2 w hs hp (by decide))
    clear ho hd IH hS hlt
    go_enter Tryd.func30, Tryd.ntmps30
    go_wp2_with (go_at_call 46; (with_reducible refine (HC.out _).mono ?_); intro e w1 hv; obtain ⟨k1, t1, A2, n2, c2, A3, n3, c3, q1, er1, pp1, rfl, hb1, hbk, hfin⟩ := GotE.put (below_alloc (Below.refl _ _) _) (Nat.le_refl _) (heap_alloc_new W _) hv; have HBK := Aside0.mk hbk; have HFIN := Aside0.mk hfin; obtain ⟨z0, z1, z2, z3, z4, z5, z6⟩ := got_cells hb1; obtain ⟨g0, g1, g2, g3, g4, g5, g6⟩ := got_thaw hb1; clear hv hb1 hbk hfin)
    refine bodyPost_ret (results_cell_row rfl _ _ W.heap.size 53 _ (0, 0) _ rfl HBK.out Tryd.underlying53 rfl (by kernel_rfl)) rfl ?_
    rw [HO.out]
    exact HFIN.out
  rw [if_neg h116] at ho
  have b116 : ((u.toNat : Int) == 116) = false := beq_eq_false_iff_ne.mpr (fun hh => h116 ((u8_eq u 116).2 hh))
  by_cases h102 : u = 102
  · subst h102
    have HO := Aside0.mk (show o = (wordF s.data.toList [102, 97, 108, 115, 101] p).map fun _ => ⟨1, ⟨#[]⟩, [], []⟩ by rw [if_pos rfl] at ho; exact (Option.some.inj ho).symm)
    have HC := Aside0.mk (show ∀ w, Calls Tryd.prog 46 #[.string s, .int .i64 (p : Int), .string ⟨#[102, 97, 108, 115, 101]⟩, .int .i64 1] w (GotE ((wordF s.data.toList [102, 97, 108, 115, 101] p).map fun _ => ⟨1, ⟨#[]⟩, [], []⟩) w) from fun w => rword_calls s ⟨#[102, 97, 108, 115, 101]⟩ p 1 w hs hp (by decide))
    clear ho hd IH hS hlt
    go_enter Tryd.func30, Tryd.ntmps30
    go_wp2_with (go_at_call 46; (with_reducible refine (HC.out _).mono ?_); intro e w1 hv; obtain ⟨k1, t1, A2, n2, c2, A3, n3, c3, q1, er1, pp1, rfl, hb1, hbk, hfin⟩ := GotE.put (below_alloc (Below.refl _ _) _) (Nat.le_refl _) (heap_alloc_new W _) hv; have HBK := Aside0.mk hbk; have HFIN := Aside0.mk hfin; obtain ⟨z0, z1, z2, z3, z4, z5, z6⟩ := got_cells hb1; obtain ⟨g0, g1, g2, g3, g4, g5, g6⟩ := got_thaw hb1; clear hv hb1 hbk hfin)
    refine bodyPost_ret (results_cell_row rfl _ _ W.heap.size 53 _ (0, 0) _ rfl HBK.out Tryd.underlying53 rfl (by kernel_rfl)) rfl ?_
    rw [HO.out]
    exact HFIN.out
  rw [if_neg h102] at ho
  have b102 : ((u.toNat : Int) == 102) = false := beq_eq_false_iff_ne.mpr (fun hh => h102 ((u8_eq u 102).2 hh))
  have HNUM := Aside0.mk (show ∀ w, Calls Tryd.prog 47 #[.string s, .int .i64 (p : Int)] w (GotE ((numberF s.data.toList p).map fun t => ⟨3, bsJ t, [], []⟩) w) from fun w => rnumber_calls s p w hs hp)
  by_cases h45 : u = 45
  · subst h45
    have HO := Aside0.mk (show o = (numberF s.data.toList p).map fun t => ⟨3, bsJ t, [], []⟩ by rw [if_pos (.inl rfl)] at ho; exact (Option.some.inj ho).symm)
    clear ho hd IH hS hlt h110 h116 h102 b110 b116 b102
    go_enter Tryd.func30, Tryd.ntmps30
    go_wp2_with (go_at_call 47; (with_reducible refine (HNUM.out _).mono ?_); intro e w1 hv; obtain ⟨k1, t1, A2, n2, c2, A3, n3, c3, q1, er1, pp1, rfl, hb1, hbk, hfin⟩ := GotE.put (below_alloc (Below.refl _ _) _) (Nat.le_refl _) (heap_alloc_new W _) hv; have HBK := Aside0.mk hbk; have HFIN := Aside0.mk hfin; obtain ⟨z0, z1, z2, z3, z4, z5, z6⟩ := got_cells hb1; obtain ⟨g0, g1, g2, g3, g4, g5, g6⟩ := got_thaw hb1; clear hv hb1 hbk hfin)
    refine bodyPost_ret (results_cell_row rfl _ _ W.heap.size 53 _ (0, 0) _ rfl HBK.out Tryd.underlying53 rfl (by kernel_rfl)) rfl ?_
    rw [HO.out]
    exact HFIN.out
  have b45 : ((u.toNat : Int) == 45) = false := beq_eq_false_iff_ne.mpr (fun hh => h45 ((u8_eq u 45).2 hh))
  by_cases hdg : isDg u = true
  · have HO := Aside0.mk (show o = (numberF s.data.toList p).map fun t => ⟨3, bsJ t, [], []⟩ by rw [if_pos (.inr hdg)] at ho; exact (Option.some.inj ho).symm)
    have hg := (isDg_iff u).1 hdg
    have d1 : decide (48 ≤ (u.toNat : Int)) = true := decide_eq_true hg.1
    have d2 : decide ((u.toNat : Int) ≤ 57) = true := decide_eq_true hg.2
    have d3 : decide (48 ≤ u.toNat) = true := decide_eq_true (by omega)
    have d4 : decide (u.toNat ≤ 57) = true := decide_eq_true (by omega)
    clear ho hd IH hS hlt h110 h116 h102 h45 hdg hg
    go_enter Tryd.func30, Tryd.ntmps30
    go_wp2_with (go_at_call 47; (with_reducible refine (HNUM.out _).mono ?_); intro e w1 hv; obtain ⟨k1, t1, A2, n2, c2, A3, n3, c3, q1, er1, pp1, rfl, hb1, hbk, hfin⟩ := GotE.put (below_alloc (Below.refl _ _) _) (Nat.le_refl _) (heap_alloc_new W _) hv; have HBK := Aside0.mk hbk; have HFIN := Aside0.mk hfin; obtain ⟨z0, z1, z2, z3, z4, z5, z6⟩ := got_cells hb1; obtain ⟨g0, g1, g2, g3, g4, g5, g6⟩ := got_thaw hb1; clear hv hb1 hbk hfin)
    refine bodyPost_ret (results_cell_row rfl _ _ W.heap.size 53 _ (0, 0) _ rfl HBK.out Tryd.underlying53 rfl (by kernel_rfl)) rfl ?_
    rw [HO.out]
    exact HFIN.out
  rw [if_neg (fun h => h.elim h45 hdg)] at ho
  have hgn : ¬ (48 ≤ (u.toNat : Int) ∧ (u.toNat : Int) ≤ 57) := fun hh => hdg ((isDg_iff u).2 hh)
  clear HNUM hdg
  by_cases h34 : u = 34
  · subst h34
    cases ht : textF s.data.toList (k + 1) [] (p + 1) with
    | none => rw [if_pos rfl, ht] at ho; cases ho
    | some ot =>
      have HO := Aside0.mk (show o = ot.map fun t => ⟨4, bsJ t, [], []⟩ by rw [if_pos rfl, ht] at ho; exact (Option.some.inj ho).symm)
      have HC := Aside0.mk (hS p hp ot ht)
      clear ho hd IH hS hlt h110 h116 h102 h45 b110 b116 b102 b45 hgn ht
      go_enter Tryd.func30, Tryd.ntmps30
      go_wp2_with (go_at_call 48; (with_reducible refine (HC.out _).mono ?_); intro e w1 hv; obtain ⟨k1, t1, A2, n2, c2, A3, n3, c3, q1, er1, pp1, rfl, hb1, hbk, hfin⟩ := GotE.put (below_alloc (Below.refl _ _) _) (Nat.le_refl _) (heap_alloc_new W _) hv; have HBK := Aside0.mk hbk; have HFIN := Aside0.mk hfin; obtain ⟨z0, z1, z2, z3, z4, z5, z6⟩ := got_cells hb1; obtain ⟨g0, g1, g2, g3, g4, g5, g6⟩ := got_thaw hb1; clear hv hb1 hbk hfin)
      refine bodyPost_ret (results_cell_row rfl _ _ W.heap.size 53 _ (0, 0) _ rfl HBK.out Tryd.underlying53 rfl (by kernel_rfl)) rfl ?_
      rw [HO.out]
      exact HFIN.out
  rw [if_neg h34] at ho
  have b34 : ((u.toNat : Int) == 34) = false := beq_eq_false_iff_ne.mpr (fun hh => h34 ((u8_eq u 34).2 hh))
  by_cases h91 : u = 91
  · subst h91
    rw [if_pos (.inl rfl)] at ho
    cases r with
    | zero =>
      have HO := Aside0.mk (show o = .err 46 p from (Option.some.inj ho).symm)
      have HC := Aside0.mk (show ∀ w, Calls Tryd.prog 45 #[.int .i64 46, .int .i64 (p : Int)] w (GotE (.err 46 p) w) from fun w => bad_any (er := 46) (p := p) (by decide) w)
      have d5 : decide (32 ≤ d) = true := decide_eq_true (by omega)
      clear ho hd IH hS hlt h110 h116 h102 h45 h34 b110 b116 b102 b45 b34 hgn hd0 hd1
      go_enter Tryd.func30, Tryd.ntmps30
      go_wp2_with (go_at_call 45; (with_reducible refine (HC.out _).mono ?_); intro e w1 hv; obtain ⟨k1, t1, A2, n2, c2, A3, n3, c3, q1, er1, pp1, rfl, hb1, hbk, hfin⟩ := GotE.put (below_alloc (Below.refl _ _) _) (Nat.le_refl _) (heap_alloc_new W _) hv; have HBK := Aside0.mk hbk; have HFIN := Aside0.mk hfin; obtain ⟨z0, z1, z2, z3, z4, z5, z6⟩ := got_cells hb1; obtain ⟨g0, g1, g2, g3, g4, g5, g6⟩ := got_thaw hb1; clear hv hb1 hbk hfin)
      refine bodyPost_ret (results_cell_row rfl _ _ W.heap.size 53 _ (0, 0) _ rfl HBK.out Tryd.underlying53 rfl (by kernel_rfl)) rfl ?_
      rw [HO.out]
      exact HFIN.out
    | succ r =>
      simp only [if_true] at ho
      cases hsv : sevF (oneI (valueF s.data.toList (k + 1) r)) s.data.toList 93 (k + 1) [] p with
      | none => rw [hsv] at ho; cases ho
      | some oi =>
        have HO := Aside0.mk (show o = oi.map fun a => ⟨5, ⟨#[]⟩, [], a⟩ by rw [hsv] at ho; exact (Option.some.inj ho).symm)
        have hV : VALC s (k + 1) r (d + 1) := by rw [show d + 1 = 32 - (r : Int) by omega]; exact IH r rfl
        have HC := Aside0.mk (show ∀ w, _ from fun w => ritems_list s k r p d w hs hs2 hd0 (by omega) hlt hV oi hsv)
        have d5 : decide (32 ≤ d) = false := decide_eq_false (by omega)
        clear ho hd IH hS hlt h110 h116 h102 h45 h34 b110 b116 b102 b45 b34 hgn hd0 hd1 hV hsv
        go_enter Tryd.func30, Tryd.ntmps30
        go_wp2_with (go_at_call 49; (with_reducible refine (HC.out _).mono ?_); intro e w1 hv; obtain ⟨k1, t1, A2, n2, c2, A3, n3, c3, q1, er1, pp1, rfl, hb1, hbk, hfin⟩ := GotE.put (below_alloc (Below.refl _ _) _) (Nat.le_refl _) (heap_alloc_new W _) hv; have HBK := Aside0.mk hbk; have HFIN := Aside0.mk hfin; obtain ⟨z0, z1, z2, z3, z4, z5, z6⟩ := got_cells hb1; obtain ⟨g0, g1, g2, g3, g4, g5, g6⟩ := got_thaw hb1; clear hv hb1 hbk hfin)
        refine bodyPost_ret (results_cell_row rfl _ _ W.heap.size 53 _ (0, 0) _ rfl HBK.out Tryd.underlying53 rfl (by kernel_rfl)) rfl ?_
        rw [HO.out]
        exact HFIN.out
  have b91 : ((u.toNat : Int) == 91) = false := beq_eq_false_iff_ne.mpr (fun hh => h91 ((u8_eq u 91).2 hh))
  have n91 : ((u.toNat : Int) != 91) = true := bne_iff_ne.mpr (fun hh => h91 ((u8_eq u 91).2 hh))
  by_cases h123 : u = 123
  · subst h123
    rw [if_pos (.inr rfl)] at ho
    cases r with
    | zero =>
      have HO := Aside0.mk (show o = .err 46 p from (Option.some.inj ho).symm)
      have HC := Aside0.mk (show ∀ w, Calls Tryd.prog 45 #[.int .i64 46, .int .i64 (p : Int)] w (GotE (.err 46 p) w) from fun w => bad_any (er := 46) (p := p) (by decide) w)
      have d5 : decide (32 ≤ d) = true := decide_eq_true (by omega)
      clear ho hd IH hS hlt h110 h116 h102 h45 h34 h91 b110 b116 b102 b45 b34 b91 n91 hgn hd0 hd1
      go_enter Tryd.func30, Tryd.ntmps30
      go_wp2_with (go_at_call 45; (with_reducible refine (HC.out _).mono ?_); intro e w1 hv; obtain ⟨k1, t1, A2, n2, c2, A3, n3, c3, q1, er1, pp1, rfl, hb1, hbk, hfin⟩ := GotE.put (below_alloc (Below.refl _ _) _) (Nat.le_refl _) (heap_alloc_new W _) hv; have HBK := Aside0.mk hbk; have HFIN := Aside0.mk hfin; obtain ⟨z0, z1, z2, z3, z4, z5, z6⟩ := got_cells hb1; obtain ⟨g0, g1, g2, g3, g4, g5, g6⟩ := got_thaw hb1; clear hv hb1 hbk hfin)
      refine bodyPost_ret (results_cell_row rfl _ _ W.heap.size 53 _ (0, 0) _ rfl HBK.out Tryd.underlying53 rfl (by kernel_rfl)) rfl ?_
      rw [HO.out]
      exact HFIN.out
    | succ r =>
      simp only [if_neg (show ¬ (123 : UInt8) = 91 by decide)] at ho
      cases hsv : sevF (oneM (valueF s.data.toList (k + 1) r) s.data.toList (k + 1)) s.data.toList 125 (k + 1) ([], []) p with
      | none => rw [hsv] at ho; cases ho
      | some oi =>
        have HO := Aside0.mk (show o = oi.map fun a => ⟨6, ⟨#[]⟩, a.1, a.2⟩ by rw [hsv] at ho; exact (Option.some.inj ho).symm)
        have hV : VALC s (k + 1) r (d + 1) := by rw [show d + 1 = 32 - (r : Int) by omega]; exact IH r rfl
        have HC := Aside0.mk (show ∀ w, _ from fun w => ritems_obj s k r p d w hs hs2 hd0 (by omega) hlt hS hV oi hsv)
        have d5 : decide (32 ≤ d) = false := decide_eq_false (by omega)
        clear ho hd IH hS hlt h110 h116 h102 h45 h34 h91 b110 b116 b102 b45 b34 b91 n91 hgn hd0 hd1 hV hsv
        go_enter Tryd.func30, Tryd.ntmps30
        go_wp2_with (go_at_call 49; (with_reducible refine (HC.out _).mono ?_); intro e w1 hv; obtain ⟨k1, t1, A2, n2, c2, A3, n3, c3, q1, er1, pp1, rfl, hb1, hbk, hfin⟩ := GotE.put (below_alloc (Below.refl _ _) _) (Nat.le_refl _) (heap_alloc_new W _) hv; have HBK := Aside0.mk hbk; have HFIN := Aside0.mk hfin; obtain ⟨z0, z1, z2, z3, z4, z5, z6⟩ := got_cells hb1; obtain ⟨g0, g1, g2, g3, g4, g5, g6⟩ := got_thaw hb1; clear hv hb1 hbk hfin)
        refine bodyPost_ret (results_cell_row rfl _ _ W.heap.size 53 _ (0, 0) _ rfl HBK.out Tryd.underlying53 rfl (by kernel_rfl)) rfl ?_
        rw [HO.out]
        exact HFIN.out
  rw [if_neg (fun h => h.elim h91 h123)] at ho
  have n123 : ((u.toNat : Int) != 123) = true := bne_iff_ne.mpr (fun hh => h123 ((u8_eq u 123).2 hh))
  have HO := Aside0.mk (show o = .err 40 p from (Option.some.inj ho).symm)
  have HC := Aside0.mk (show ∀ w, Calls Tryd.prog 45 #[.int .i64 40, .int .i64 (p : Int)] w (GotE (.err 40 p) w) from fun w => bad_any (er := 40) (p := p) (by decide) w)
  clear ho hd IH hS hlt h110 h116 h102 h45 h34 h91 h123
  by_cases h48 : 48 ≤ (u.toNat : Int)
  · have d1 : decide (48 ≤ (u.toNat : Int)) = true := decide_eq_true h48
    have d2 : decide ((u.toNat : Int) ≤ 57) = false := decide_eq_false (by omega)
    have d3 : decide (48 ≤ u.toNat) = true := decide_eq_true (by omega)
    have d4 : decide (u.toNat ≤ 57) = false := decide_eq_false (by omega)
    clear h48 hgn hd0 hd1
    go_enter Tryd.func30, Tryd.ntmps30
    go_wp2_with (go_at_call 45; (with_reducible refine (HC.out _).mono ?_); intro e w1 hv; obtain ⟨k1, t1, A2, n2, c2, A3, n3, c3, q1, er1, pp1, rfl, hb1, hbk, hfin⟩ := GotE.put (below_alloc (Below.refl _ _) _) (Nat.le_refl _) (heap_alloc_new W _) hv; have HBK := Aside0.mk hbk; have HFIN := Aside0.mk hfin; obtain ⟨z0, z1, z2, z3, z4, z5, z6⟩ := got_cells hb1; obtain ⟨g0, g1, g2, g3, g4, g5, g6⟩ := got_thaw hb1; clear hv hb1 hbk hfin)
    refine bodyPost_ret (results_cell_row rfl _ _ W.heap.size 53 _ (0, 0) _ rfl HBK.out Tryd.underlying53 rfl (by kernel_rfl)) rfl ?_
    rw [HO.out]
    exact HFIN.out
  · have d1 : decide (48 ≤ (u.toNat : Int)) = false := decide_eq_false h48
    have d3 : decide (48 ≤ u.toNat) = false := decide_eq_false (by omega)
    clear h48 hgn hd0 hd1
    go_enter Tryd.func30, Tryd.ntmps30
    go_wp2_with (go_at_call 45; (with_reducible refine (HC.out _).mono ?_); intro e w1 hv; obtain ⟨k1, t1, A2, n2, c2, A3, n3, c3, q1, er1, pp1, rfl, hb1, hbk, hfin⟩ := GotE.put (below_alloc (Below.refl _ _) _) (Nat.le_refl _) (heap_alloc_new W _) hv; have HBK := Aside0.mk hbk; have HFIN := Aside0.mk hfin; obtain ⟨z0, z1, z2, z3, z4, z5, z6⟩ := got_cells hb1; obtain ⟨g0, g1, g2, g3, g4, g5, g6⟩ := got_thaw hb1; clear hv hb1 hbk hfin)
    refine bodyPost_ret (results_cell_row rfl _ _ W.heap.size 53 _ (0, 0) _ rfl HBK.out Tryd.underlying53 rfl (by kernel_rfl)) rfl ?_
    rw [HO.out]
    exact HFIN.out
theorem rvalue_ok (s : ByteArray) (k : Nat) (hs : s.size ≤ 4611686018427387904) (hs2 : s.size ≤ 1000000) (hS : ∀ q, q ≤ s.size → StrC s (k + 1) q) : ∀ r, r ≤ 32 → VALC s (k + 1) r (32 - (r : Int))
  | 0, _ => rvalue_step s k 0 _ rfl (by decide) hs hs2 hS (fun r' h => by omega)
  | r + 1, h => rvalue_step s k (r + 1) _ rfl h hs hs2 hS (fun r' e => by have e2 : r' = r := (by omega); rw [e2]; exact rvalue_ok s k hs hs2 hS r (by omega))
end Go.Proofs.YtaalajhmfdcalaaDoor.X
namespace Go.Proofs.YtaalajhmfdcalaaDoor.X
open Go.RowKit Go.Lib Go.Proofs.YtaalajhmfdcalaaDoorW.PrintWords Go.Proofs.YtaalajhmfdcalaaDoorW.PrintLast Go.Proofs.YtaalajhmfdcalaaDoorW.PrintMore
def hexZ (u : UInt8) : Int := match hexF u with | some n => (n : Int) | none => -1
theorem ret_i64 {a b : Int} (h : a = b) : Ending.returned (.int .i64 a) = .returned (.int .i64 b) := by rw [h]
theorem hexZ_a {u : UInt8} (h : 48 ≤ u.toNat ∧ u.toNat ≤ 57) : hexZ u = (u.toNat : Int) - 48 := by unfold hexZ hexF; rw [if_pos h]; simp only; omega
theorem hexZ_b {u : UInt8} (h : 97 ≤ u.toNat ∧ u.toNat ≤ 102) : hexZ u = (u.toNat : Int) - 87 := by unfold hexZ hexF; rw [if_neg (by omega), if_pos h]; simp only; omega
theorem hexZ_c {u : UInt8} (h : 65 ≤ u.toNat ∧ u.toNat ≤ 70) : hexZ u = (u.toNat : Int) - 55 := by unfold hexZ hexF; rw [if_neg (by omega), if_neg (by omega), if_pos h]; simp only; omega
theorem hexZ_d {u : UInt8} (h1 : ¬ (48 ≤ u.toNat ∧ u.toNat ≤ 57)) (h2 : ¬ (97 ≤ u.toNat ∧ u.toNat ≤ 102)) (h3 : ¬ (65 ≤ u.toNat ∧ u.toNat ≤ 70)) : hexZ u = -1 := by unfold hexZ hexF; rw [if_neg h1, if_neg h2, if_neg h3]
theorem hex_ways (n : Nat) (h : n < 256) : (48 ≤ n ∧ n ≤ 57) ∨ (97 ≤ n ∧ n ≤ 102) ∨ (65 ≤ n ∧ n ≤ 70) ∨ n < 48 ∨ (57 < n ∧ n < 65) ∨ (70 < n ∧ n < 97) ∨ 102 < n := by omega
set_option maxRecDepth 1000000 in
set_option maxHeartbeats 4000000 in
theorem rhex_calls (u : UInt8) (W : World) : Calls Tryd.prog 96 #[.int .u8 u.toNat] W fun e W' => e = .returned (.int .i64 (hexZ u)) ∧ W' = W := by
  have hlt := u.toNat_lt
  have HZ := Aside0.mk (show hexZ u = hexZ u from rfl)
  rcases hex_ways u.toNat hlt with h | h | h | h | h | h | h
  case' inl => have HF := Aside0.mk (hexZ_a h)
  case' inr.inl => have HF := Aside0.mk (hexZ_b h)
  case' inr.inr.inl => have HF := Aside0.mk (hexZ_c h)
  case' inr.inr.inr.inl => have HF := Aside0.mk (hexZ_d (u := u) (by omega) (by omega) (by omega))
  case' inr.inr.inr.inr.inl => have HF := Aside0.mk (hexZ_d (u := u) (by omega) (by omega) (by omega))
  case' inr.inr.inr.inr.inr.inl => have HF := Aside0.mk (hexZ_d (u := u) (by omega) (by omega) (by omega))
  case' inr.inr.inr.inr.inr.inr => have HF := Aside0.mk (hexZ_d (u := u) (by omega) (by omega) (by omega))
  all_goals (
    have HH := Aside0.mk h
    generalize hexZ u = z at *
    generalize u.toNat = n at *
    obtain ⟨c, rfl⟩ : ∃ c : Int, c = (n : Int) := ⟨_, rfl⟩
    have b0 : 0 ≤ (n : Int) := by omega
    have b1 : (n : Int) ≤ 255 := by omega
    try have d1 : decide (48 ≤ (n : Int)) = true := decide_eq_true (by omega)
    try have d1 : decide (48 ≤ (n : Int)) = false := decide_eq_false (by omega)
    try have d2 : decide ((n : Int) ≤ 57) = true := decide_eq_true (by omega)
    try have d2 : decide ((n : Int) ≤ 57) = false := decide_eq_false (by omega)
    try have d3 : decide (97 ≤ (n : Int)) = true := decide_eq_true (by omega)
    try have d3 : decide (97 ≤ (n : Int)) = false := decide_eq_false (by omega)
    try have d4 : decide ((n : Int) ≤ 102) = true := decide_eq_true (by omega)
    try have d4 : decide ((n : Int) ≤ 102) = false := decide_eq_false (by omega)
    try have d5 : decide (65 ≤ (n : Int)) = true := decide_eq_true (by omega)
    try have d5 : decide (65 ≤ (n : Int)) = false := decide_eq_false (by omega)
    try have d6 : decide ((n : Int) ≤ 70) = true := decide_eq_true (by omega)
    try have d6 : decide ((n : Int) ≤ 70) = false := decide_eq_false (by omega)
    clear h hlt
    go_enter Tryd.func96, Tryd.ntmps96
    go_wp2
    go_ret
    refine ⟨?_, rfl⟩
    rw [HF.out]
    first
    | rfl
    | (refine ret_i64 ?_; have := HH.out; omega)
    | (refine ret_i64 ?_; have := HH.out; simp only [wrap64]; omega))
end Go.Proofs.YtaalajhmfdcalaaDoor.X
namespace Go.Proofs.YtaalajhmfdcalaaDoor.X
open Go.RowKit Go.Lib Go.Proofs.YtaalajhmfdcalaaDoorW.PrintWords Go.Proofs.YtaalajhmfdcalaaDoorW.PrintLast Go.Proofs.YtaalajhmfdcalaaDoorW.PrintMore
def FourE (o : Out Nat) (e : Ending) : Prop := match o with
  | .val x q => e = .returned (.tuple #[.int .i64 (x : Int), .int .i64 (q : Int), .int .i64 0, .int .i64 0])
  | .err er q => er ≠ 0 ∧ e = .returned (.tuple #[.int .i64 0, .int .i64 0, .int .i64 (er : Int), .int .i64 (q : Int)])
theorem hexF15 {u : UInt8} {h : Nat} (e : hexF u = some h) : h ≤ 15 := by
  unfold hexF at e
  repeat' split at e
  all_goals first | (injection e with e; omega) | cases e
theorem fourF_go {s : List UInt8} {n x q h : Nat} {u : UInt8} (hu : s[q]? = some u) (hh : hexF u = some h) : fourF s (n + 1) x q = fourF s n (x * 16 + h) (q + 1) := by
  rw [fourF, hu]
  simp only [hh]
theorem fourF_no {s : List UInt8} {n x q : Nat} {u : UInt8} (hu : s[q]? = some u) (hh : hexF u = none) : fourF s (n + 1) x q = .err 42 q := by
  rw [fourF, hu]
  simp only [hh]
theorem fourF_end {s : List UInt8} {n x q : Nat} (hu : s[q]? = none) : fourF s (n + 1) x q = .err 3 s.length := by
  rw [fourF, hu]
theorem sixteen (x h : Nat) : ((16 * (x : Int) + (h : Int)) : Int) = ((x * 16 + h : Nat) : Int) := by omega
set_option maxRecDepth 1000000 in
set_option maxHeartbeats 8000000 in
theorem rfour_calls (s : ByteArray) (p : Nat) (W : World) (hs : s.size ≤ 1000000) (hp : p ≤ 2000000) : Calls Tryd.prog 87 #[.string s, .int .i64 (p : Int)] W fun e W' => FourE (fourF s.data.toList 4 0 p) e ∧ W' = W := by
  go_enter Tryd.func87, Tryd.ntmps87
  go_wp2
  go_loopg [8, 9] 5 (fun g v8 v9 wr => ∃ (i x q : Nat), v8 = .int .i64 (x : Int) ∧ v9 = .int .i64 (q : Int) ∧ q = p + i ∧ i ≤ 4 ∧ g + i = 5 ∧ x < 16 ^ i ∧ wr = W ∧ Aside0 (fourF s.data.toList 4 0 p = fourF s.data.toList (4 - i) x q))
  case atStart => exact ⟨0, 0, p, rfl, rfl, rfl, by omega, by omega, by decide, rfl, ⟨rfl⟩⟩
  case round =>
    obtain ⟨i, x, q, rfl, rfl, hq, hi, hg, hx16, rfl, HF⟩ := hrel
    have hx : x ≤ 65536 := by
      have : (16 : Nat) ^ i ≤ 16 ^ 4 := Nat.pow_le_pow_right (by decide) hi
      have e4 : (16 : Nat) ^ 4 = 65536 := by decide
      omega
    have HX16 := Aside0.mk hx16
    clear hx16
    have hqb : q ≤ 2000004 := by omega
    by_cases hi4 : i < 4
    · cases gk with
      | zero => omega
      | succ g =>
        obtain ⟨n, hn⟩ : ∃ n, 4 - i = n + 1 := ⟨3 - i, by omega⟩
        have t1 : decide ((q : Int) < (p : Int) + 4) = true := decide_eq_true (by omega)
        have HN := Aside0.mk hn
        clear hn
        by_cases hend : s.size ≤ q
        · have HO := Aside0.mk (show fourF s.data.toList 4 0 p = .err 3 s.size by rw [HF.out, HN.out, fourF_end (List.getElem?_eq_none (by rw [size_data]; exact hend)), size_data])
          have h1 : decide (s.size ≤ q) = true := decide_eq_true hend
          clear hend hq
          go_wp2
          refine bodyPost_ret (v := .tuple #[.int .i64 0, .int .i64 0, .int .i64 3, .int .i64 (s.size : Int)]) (by simp [results, Tryd.results87, go_sem]) rfl ?_
          rw [HO.out]
          exact ⟨⟨by decide, rfl⟩, rfl⟩
        · obtain ⟨u, hu, hxu⟩ := drop_at s q (by omega)
          have hu' := at_drop hu
          have h1 : decide (s.size ≤ q) = false := decide_eq_false hend
          have p1 : (0 ≤ (q : Int)) = True := eq_true (by omega)
          have p2 : ((q : Int) < (s.size : Int)) = True := eq_true (by omega)
          clear hu
          cases hh : hexF u with
          | none =>
            have HO := Aside0.mk (show fourF s.data.toList 4 0 p = .err 42 q by rw [HF.out, HN.out, fourF_no hu' hh])
            have HZ := Aside0.mk (show hexZ u = -1 by unfold hexZ; rw [hh])
            clear hu' hh hend hq
            go_wp2_with (go_at_call 96; (with_reducible refine (rhex_calls u _).mono ?_); rintro e w1 ⟨rfl, rfl⟩; rw [HZ.out])
            refine bodyPost_ret (v := .tuple #[.int .i64 0, .int .i64 0, .int .i64 42, .int .i64 (q : Int)]) (by simp [results, Tryd.results87, go_sem]) rfl ?_
            rw [HO.out]
            exact ⟨⟨by decide, rfl⟩, rfl⟩
          | some h =>
            have HO := Aside0.mk (show fourF s.data.toList 4 0 p = fourF s.data.toList (4 - (i + 1)) (x * 16 + h) (q + 1) by rw [HF.out, HN.out, fourF_go hu' hh, show 4 - (i + 1) = n by have := HN.out; omega])
            have HZ := Aside0.mk (show hexZ u = (h : Int) by unfold hexZ; rw [hh])
            have hh15 := hexF15 hh
            have hx2 : x * 16 + h < 16 ^ (i + 1) := by have := HX16.out; rw [Nat.pow_succ]; omega
            have HX2 := Aside0.mk hx2
            have hz0 : (0 : Int) ≤ (h : Int) := by omega
            have hz1 : decide ((h : Int) < 0) = false := decide_eq_false (by omega)
            have HQ := Aside0.mk (show q + 1 = p + (i + 1) by omega)
            clear hu' hh hend hx2 hq
            go_wp2_with (go_at_call 96; (with_reducible refine (rhex_calls u _).mono ?_); rintro e w1 ⟨rfl, rfl⟩; rw [HZ.out])
            go_roundg g
            case measure => omega
            case rel => exact ⟨i + 1, x * 16 + h, q + 1, congrArg (Value.int .i64) (sixteen x h), congrArg (Value.int .i64) (cast1 q), HQ.out, by omega, by omega, HX2.out, rfl, HO⟩
    · obtain rfl : i = 4 := by omega
      have t1 : decide ((q : Int) < (p : Int) + 4) = false := decide_eq_false (by omega)
      have HO := Aside0.mk (show fourF s.data.toList 4 0 p = .val x q by rw [HF.out]; rfl)
      have HQE := Aside0.mk (show (q : Int) = (p : Int) + 4 by omega)
      go_wp2
      refine bodyPost_ret (v := .tuple #[.int .i64 (x : Int), .int .i64 ((p : Int) + 4), .int .i64 0, .int .i64 0]) (by simp [results, Tryd.results87, go_sem]) rfl ?_
      rw [HO.out]
      show _ = _ ∧ _
      rw [HQE.out]
      exact ⟨rfl, rfl⟩
end Go.Proofs.YtaalajhmfdcalaaDoor.X
namespace Go.Proofs.YtaalajhmfdcalaaDoor.X
open Go.RowKit Go.Lib Go.Proofs.YtaalajhmfdcalaaDoorW.PrintWords Go.Proofs.YtaalajhmfdcalaaDoorW.PrintLast Go.Proofs.YtaalajhmfdcalaaDoorW.PrintMore
def RuneOK (c : Nat) : Prop := c ≤ 55295 ∨ (57344 ≤ c ∧ c ≤ 1114111)
def UtfE (c : Nat) (W : World) (e : Ending) (W' : World) : Prop := e = .returned (.slice (some ⟨W.heap.size, 0, none⟩) (encodeRuneZ c).length (encodeRuneZ c).length) ∧ W' = W.alloc (.cells (runeCells c).toArray 5)
theorem utfE_of {c : Nat} {W : World} {l : List Int} {n : Nat} {cs : Array Value} (h : encodeRuneZ c = l) (hn : n = l.length) (hc : cs = (l.map fun x => Value.int .u8 x).toArray) : UtfE c W (.returned (.slice (some ⟨W.heap.size, 0, none⟩) n n)) (W.alloc (.cells cs 5)) := by
  unfold UtfE runeCells
  rw [h, hn, hc]
  exact ⟨rfl, rfl⟩
set_option maxRecDepth 1000000 in
set_option maxHeartbeats 4000000 in
theorem rutf_calls (c : Nat) (W : World) (hc : RuneOK c) : Calls Tryd.prog 88 #[.int .i64 (c : Int)] W (UtfE c W) := by
  unfold RuneOK at hc
  rcases (by omega : c < 128 ∨ (128 ≤ c ∧ c < 2048) ∨ (2048 ≤ c ∧ c < 65536) ∨ 65536 ≤ c) with h | ⟨h0, h⟩ | ⟨h0, h⟩ | h
  · have HE := Aside0.mk (encodeRuneZ_one (r := (c : Int)) (by omega) (by omega))
    have d1 : decide ((c : Int) < 128) = true := decide_eq_true (by omega)
    have b0 : (c : Int) ≤ 127 := by omega
    clear hc h
    go_enter Tryd.func88, Tryd.ntmps88
    go_wp2
    go_ret
    exact utfE_of HE.out rfl rfl
  · have HE := Aside0.mk (encodeRuneZ_two (r := (c : Int)) (by omega) (by omega))
    have d1 : decide ((c : Int) < 128) = false := decide_eq_false (by omega)
    have d2 : decide ((c : Int) < 2048) = true := decide_eq_true (by omega)
    have b0 : (c : Int) ≤ 2047 := by omega
    clear hc h0 h
    go_enter Tryd.func88, Tryd.ntmps88
    go_wp2
    go_ret
    exact utfE_of HE.out rfl rfl
  · have HE := Aside0.mk (encodeRuneZ_three (r := (c : Int)) (by omega))
    have d1 : decide ((c : Int) < 128) = false := decide_eq_false (by omega)
    have d2 : decide ((c : Int) < 2048) = false := decide_eq_false (by omega)
    have d3 : decide ((c : Int) < 65536) = true := decide_eq_true (by omega)
    have b0 : (c : Int) ≤ 65535 := by omega
    clear hc h0 h
    go_enter Tryd.func88, Tryd.ntmps88
    go_wp2
    go_ret
    exact utfE_of HE.out rfl rfl
  · have HE := Aside0.mk (encodeRuneZ_four (r := (c : Int)) (by omega) (by omega))
    have d1 : decide ((c : Int) < 128) = false := decide_eq_false (by omega)
    have d2 : decide ((c : Int) < 2048) = false := decide_eq_false (by omega)
    have d3 : decide ((c : Int) < 65536) = false := decide_eq_false (by omega)
    have b0 : (c : Int) ≤ 1114111 := by omega
    clear hc h
    go_enter Tryd.func88, Tryd.ntmps88
    go_wp2
    go_ret
    exact utfE_of HE.out rfl rfl
theorem runeCells_eq (c : Nat) (hc : RuneOK c) : runeCells c = cellsOf (encodeRune c) ∧ (encodeRune c).length = (encodeRuneZ c).length := by
  unfold RuneOK at hc
  have key : ∀ l : List Int, (∀ x, x ∈ l → 0 ≤ x ∧ x ≤ 255) → (l.map fun x => Value.int .u8 x) = cellsOf (l.map fun x => x.toNat.toUInt8) := by
    intro l hl
    unfold cellsOf
    rw [List.map_map]
    refine List.map_congr_left (fun x hx => ?_)
    obtain ⟨h0, h1⟩ := hl x hx
    show Value.int .u8 x = Value.int .u8 ((x.toNat.toUInt8).toNat : Int)
    have : (x.toNat.toUInt8).toNat = x.toNat := by
      show (UInt8.ofNat x.toNat).toNat = x.toNat
      rw [UInt8.toNat_ofNat']
      omega
    rw [this]
    congr 1
    omega
  refine ⟨?_, by simp [encodeRune]⟩
  unfold runeCells encodeRune
  refine key _ (fun x hx => ?_)
  rcases (by omega : c < 128 ∨ (128 ≤ c ∧ c < 2048) ∨ (2048 ≤ c ∧ c < 65536) ∨ 65536 ≤ c) with h | ⟨h0, h⟩ | ⟨h0, h⟩ | h
  · rw [encodeRuneZ_one (by omega) (by omega)] at hx
    simp at hx
    omega
  · rw [encodeRuneZ_two (by omega) (by omega)] at hx
    simp at hx
    omega
  · rw [encodeRuneZ_three (by omega)] at hx
    simp at hx
    omega
  · rw [encodeRuneZ_four (by omega) (by omega)] at hx
    simp at hx
    omega
end Go.Proofs.YtaalajhmfdcalaaDoor.X
namespace Go.Proofs.YtaalajhmfdcalaaDoor.X
open Go.RowKit Go.Lib Go.Proofs.YtaalajhmfdcalaaDoorW.PrintWords Go.Proofs.YtaalajhmfdcalaaDoorW.PrintLast Go.Proofs.YtaalajhmfdcalaaDoorW.PrintMore
def EscE (o : Out Nat) (W : World) (e : Ending) (W' : World) : Prop := match o with
  | .val r q => ∃ g, e = .returned (.tuple #[.slice (some ⟨g, 0, none⟩) (encodeRune r).length (encodeRune r).length, .int .i64 (q : Int), .int .i64 0, .int .i64 0]) ∧ W'.heap[g]? = some (.cells (cellsOf (encodeRune r)).toArray 5 (0, 0)) ∧ W.heap.size ≤ g ∧ Below W.heap.size W W'
  | .err er q => er ≠ 0 ∧ e = .returned (.tuple #[.slice none 0 0, .int .i64 0, .int .i64 (er : Int), .int .i64 (q : Int)]) ∧ Below W.heap.size W W'
theorem esc_results {tmps : Array Value} {w : World} {a b c d : Value} (h4 : tmps.getD 4 undef = a) (h5 : tmps.getD 5 undef = b) (h6 : tmps.getD 6 undef = c) (h7 : tmps.getD 7 undef = d) : (results Tryd.f73 tmps).run Tryd.prog w = .ok (.tuple #[a, b, c, d]) w := by
  subst h4 h5 h6 h7
  simp [results, Tryd.results73, go_sem]
theorem fourF_bd {s : List UInt8} : ∀ (n x p y q : Nat), fourF s n x p = .val y q → y < (x + 1) * 16 ^ n ∧ q = p + n
  | 0, x, p, y, q, h => by
    simp only [fourF, Out.val.injEq] at h
    obtain ⟨rfl, rfl⟩ := h
    simp
  | n + 1, x, p, y, q, h => by
    cases hu : s[p]? with
    | none => rw [fourF_end hu] at h; cases h
    | some u =>
      cases hh : hexF u with
      | none => rw [fourF_no hu hh] at h; cases h
      | some v =>
        rw [fourF_go hu hh] at h
        obtain ⟨h1, h2⟩ := fourF_bd n _ _ _ _ h
        have h3 := hexF15 hh
        refine ⟨?_, by omega⟩
        rw [Nat.pow_succ]
        calc y < (x * 16 + v + 1) * 16 ^ n := h1
          _ ≤ ((x + 1) * 16) * 16 ^ n := Nat.mul_le_mul_right _ (by omega)
          _ = (x + 1) * (16 ^ n * 16) := by rw [Nat.mul_assoc, Nat.mul_comm 16]
def escY (p x : Nat) : Out Nat → Out Nat
  | .err e q => .err e q
  | .val y q => if y < 0xdc00 ∨ 0xdfff < y then .err 43 p else .val (0x10000 + (x - 0xd800) * 0x400 + (y - 0xdc00)) q
def escV (s : List UInt8) (p x : Nat) : Out Unit → Out Nat
  | .err e q => .err e q
  | .val _ q => escY p x (fourF s 4 0 q)
def escU (s : List UInt8) (p : Nat) : Out Nat → Out Nat
  | .err e q => .err e q
  | .val x q => if 0xdc00 ≤ x ∧ x ≤ 0xdfff then .err 43 p else if 0xd800 ≤ x ∧ x ≤ 0xdbff then escV s p x (mustF s p [92, 117] q) else .val x q
theorem esc_at {s : List UInt8} {p : Nat} {u : UInt8} (h : s[p + 1]? = some u) : escF s p = match escdF u with
    | some x => .val x (p + 2)
    | none => if u = 117 then escU s p (fourF s 4 0 (p + 2)) else .err 42 (p + 1) := by
  unfold escF
  rw [h]
  simp only
  cases escdF u with
  | some x => rfl
  | none =>
    simp only
    by_cases h117 : u = 117
    · rw [if_pos h117, if_pos h117]
      cases fourF s 4 0 (p + 2) with
      | err e q => rfl
      | val x q =>
        simp only [escU]
        by_cases h1 : 0xdc00 ≤ x ∧ x ≤ 0xdfff
        · rw [if_pos h1, if_pos h1]
        · rw [if_neg h1, if_neg h1]
          by_cases h2 : 0xd800 ≤ x ∧ x ≤ 0xdbff
          · rw [if_pos h2, if_pos h2]
            cases mustF s p [92, 117] q with
            | err e q => rfl
            | val _ q =>
              simp only [escV]
              cases fourF s 4 0 q with
              | err e q => rfl
              | val y q => rfl
          · rw [if_neg h2, if_neg h2]
    · rw [if_neg h117, if_neg h117]
def fromL : List UInt8 := [34, 92, 47, 98, 102, 110, 114, 116]
def toL : List UInt8 := [34, 92, 47, 8, 12, 10, 13, 9]
theorem esc_hit : ∀ k, k < 8 → ∀ f t, fromL[k]? = some f → toL[k]? = some t → escdF f = some t.toNat ∧ t.toNat < 128 := by
  intro k hk f t hf ht
  rcases (by omega : k = 0 ∨ k = 1 ∨ k = 2 ∨ k = 3 ∨ k = 4 ∨ k = 5 ∨ k = 6 ∨ k = 7) with rfl | rfl | rfl | rfl | rfl | rfl | rfl | rfl <;>
  (simp only [fromL, toL] at hf ht; injection hf with hf; injection ht with ht; subst hf ht; exact ⟨by decide, by decide⟩)
theorem esc_miss {u : UInt8} (h : ∀ j, j < 8 → ¬ fromL[j]? = some u) : escdF u = none := by
  have h0 := h 0 (by decide); have h1 := h 1 (by decide); have h2 := h 2 (by decide); have h3 := h 3 (by decide); have h4 := h 4 (by decide); have h5 := h 5 (by decide); have h6 := h 6 (by decide); have h7 := h 7 (by decide)
  simp [fromL] at h0 h1 h2 h3 h4 h5 h6 h7
  unfold escdF
  rw [if_neg (fun hh => by exact hh.elim (fun hh => h0 hh.symm) (fun hh => hh.elim (fun hh => h1 hh.symm) (fun hh => h2 hh.symm))), if_neg (fun hh => h3 hh.symm), if_neg (fun hh => h4 hh.symm), if_neg (fun hh => h5 hh.symm), if_neg (fun hh => h6 hh.symm), if_neg (fun hh => h7 hh.symm)]
theorem esc_done {W wr : World} {r n : Nat} {q : Nat} (hr : RuneOK r) (hb : Below W.heap.size W wr) (hn : n = (encodeRuneZ r).length) {cs : Array Value} (hc : cs = (runeCells r).toArray) : EscE (.val r q) W (.returned (.tuple #[.slice (some ⟨wr.heap.size, 0, none⟩) n n, .int .i64 (q : Int), .int .i64 0, .int .i64 0])) (wr.alloc (.cells cs 5)) := by
  obtain ⟨h1, h2⟩ := runeCells_eq r hr
  refine ⟨wr.heap.size, by rw [h2, hn], by rw [hc, h1]; exact heap_alloc_new wr _, hb.size, below_alloc hb _⟩
theorem esc_done1 {W wr : World} {r n g : Nat} {q : Nat} (hr : RuneOK r) (hb : Below W.heap.size W wr) (hg : g = wr.heap.size) (hn : n = (encodeRuneZ r).length) {cs : Array Value} (hc : cs = (runeCells r).toArray) : EscE (.val r q) W (.returned (.tuple #[.slice (some ⟨g, 0, none⟩) n n, .int .i64 (q : Int), .int .i64 0, .int .i64 0])) (wr.alloc (.cells cs 5)) := by
  subst hg
  exact esc_done hr hb hn hc
theorem mustF_step {s w : List UInt8} {f q : Nat} {c u : UInt8} (hu : s[q]? = some u) (he : u = c) : mustF s f (c :: w) q = mustF s f w (q + 1) := by
  rw [mustF, hu]; simp only [if_pos he]
theorem mustF_no {s w : List UInt8} {f q : Nat} {c u : UInt8} (hu : s[q]? = some u) (he : ¬ u = c) : mustF s f (c :: w) q = .err 43 f := by
  rw [mustF, hu]; simp only [if_neg he]
theorem mustF_end {s w : List UInt8} {f q : Nat} {c : UInt8} (hu : s[q]? = none) : mustF s f (c :: w) q = .err 3 s.length := by
  rw [mustF, hu]
theorem lone_sum (x y : Nat) (hx : 55296 ≤ x) (hy : 56320 ≤ y) : (65536 + 1024 * ((x : Int) - 55296) + (y : Int) - 56320) = ((65536 + (x - 55296) * 1024 + (y - 56320) : Nat) : Int) := by omega
set_option maxRecDepth 1000000 in
set_option maxHeartbeats 16000000 in
theorem resc_calls (s : ByteArray) (p : Nat) (W : World) (hs : s.size ≤ 1000000) (hp : p < s.size) : Calls Tryd.prog 73 #[.string s, .int .i64 (p : Int)] W (EscE (escF s.data.toList p) W) := by
  have w3p := cast1 p
  have HP2 := Aside0.mk (show p + 2 ≤ 2000000 by omega)
  have HB0 := Aside0.mk (Below.refl W.heap.size W)
  by_cases hend : s.size ≤ p + 1
  · have HO := Aside0.mk (show escF s.data.toList p = .err 3 s.size by unfold escF; rw [List.getElem?_eq_none (by rw [size_data]; exact hend), size_data])
    have HB := HB0
    generalize p + 1 = p1 at *
    have d1 : decide (s.size ≤ p1) = true := decide_eq_true hend
    go_enter Tryd.func73, Tryd.ntmps73
    go_wp2
    refine bodyPost_ret (esc_results rfl rfl rfl rfl) rfl ?_
    rw [HO.out]
    exact ⟨by decide, rfl, by repeat (first | exact HB.out | apply pw_below_drewN | apply below_drew1 | apply below_alloc)⟩
  obtain ⟨u, hu, hx⟩ := drop_at s (p + 1) (by omega)
  have HE := Aside0.mk (esc_at (at_drop hu))
  have HP1 := Aside0.mk (show p + 1 = p + 1 from rfl)
  have w3q : (p : Int) + 2 = ((p + 2 : Nat) : Int) := by omega
  clear hu
  generalize hp1 : p + 1 = p1 at *
  generalize hp2 : p + 2 = p2 at *
  have HPP := Aside0.mk (show p2 ≤ 1000002 by omega)
  clear hp1 hp2 HP1
  have d1 : decide (s.size ≤ p1) = false := decide_eq_false hend
  have q1 : (0 ≤ (p1 : Int)) = True := eq_true (by omega)
  have q2 : ((p1 : Int) < (s.size : Int)) = True := eq_true (by omega)
  clear hend
  go_enter Tryd.func73, Tryd.ntmps73
  go_wp2
  go_loopg [10] 9 (fun g v10 wr => ∃ k : Nat, v10 = .int .i64 (k : Int) ∧ k ≤ 8 ∧ g + k = 9 ∧ Aside0 (Below W.heap.size W wr) ∧ Aside0 (∀ j, j < k → ¬ fromL[j]? = some u))
  case atStart => exact ⟨0, rfl, by omega, by omega, HB0, ⟨fun j hj => by omega⟩⟩
  case round =>
    obtain ⟨k, rfl, hk, hg, HB, HM⟩ := hrel
    clear HB0
    by_cases hk8 : k < 8
    · cases gk with
      | zero => omega
      | succ g =>
        obtain ⟨f, hf, hfx⟩ := drop_at (⟨#[34, 92, 47, 98, 102, 110, 114, 116]⟩ : ByteArray) k hk8
        obtain ⟨t, ht, htx⟩ := drop_at (⟨#[34, 92, 47, 8, 12, 10, 13, 9]⟩ : ByteArray) k hk8
        have hf' := at_drop hf
        have ht' := at_drop ht
        have k0 : (0 ≤ (k : Int)) = True := eq_true (by omega)
        have k1 : ((k : Int) < 8) = True := eq_true (by omega)
        have k2 : (k < 8) = True := eq_true hk8
        clear hf ht
        by_cases he : u = f
        · subst he
          have e1 : ((u.toNat : Int) == (u.toNat : Int)) = true := beq_self_eq_true _
          obtain ⟨h1, h2⟩ := esc_hit k hk8 u t hf' ht'
          have HO := Aside0.mk (show escF s.data.toList p = .val t.toNat p2 by rw [HE.out, h1])
          have HT := Aside0.mk h2
          have HZ := Aside0.mk (encodeRuneZ_one (r := (t.toNat : Int)) (by omega) (by omega))
          clear h1 h2 hf' ht'
          go_wp2
          go_quiet (fail)
          go_wp2
          refine bodyPost_ret (esc_results rfl rfl rfl rfl) rfl ?_
          rw [HO.out]
          refine esc_done1 (r := t.toNat) (.inl (by have := HT.out; omega)) ?hb ?hs ?hn ?hc
          case hb => exact pw_below_drewN HB.out _
          case hs => rfl
          case hn => rw [HZ.out]; rfl
          case hc => unfold runeCells; rw [HZ.out]; rfl
        · have hne : ¬ (u.toNat : Int) = (f.toNat : Int) := fun hh => he ((u8_eq u f).2 hh)
          have e1 : ((u.toNat : Int) == (f.toNat : Int)) = false := beq_eq_false_iff_ne.mpr hne
          have e2 : (u.toNat == f.toNat) = false := beq_eq_false_iff_ne.mpr (fun hh => hne (congrArg Int.ofNat hh))
          have HM2 := Aside0.mk (show ∀ j, j < k + 1 → ¬ fromL[j]? = some u from fun j hj => by
            by_cases h : j < k
            · exact HM.out j h
            · obtain rfl : j = k := by omega
              intro hh
              have : fromL[j]? = some f := hf'
              rw [hh] at this
              exact he (Option.some.inj this))
          clear he hne hf' ht'
          go_wp2
          go_quiet (fail)
          go_wp2
          go_roundg g
          case measure => omega
          case rel => exact ⟨k + 1, congrArg (Value.int .i64) (cast1 k), by omega, by omega, ⟨by repeat (first | exact HB.out | apply pw_below_drewN | apply below_drew1 | apply below_alloc)⟩, HM2⟩
    · obtain rfl : k = 8 := by omega
      have hesc := esc_miss HM.out
      have HE2 := Aside0.mk (show escF s.data.toList p = if u = 117 then escU s.data.toList p (fourF s.data.toList 4 0 p2) else .err 42 p1 by rw [HE.out, hesc])
      clear hesc
      by_cases h117 : u = 117
      case neg =>
        have b117 : ((u.toNat : Int) != 117) = true := bne_iff_ne.mpr (fun hh => h117 ((u8_eq u 117).2 hh))
        have HO := Aside0.mk (show escF s.data.toList p = .err 42 p1 by rw [HE2.out, if_neg h117])
        clear h117
        go_wp2
        refine bodyPost_ret (esc_results rfl rfl rfl rfl) rfl ?_
        rw [HO.out]
        exact ⟨by decide, rfl, by repeat (first | exact HB.out | apply pw_below_drewN | apply below_drew1 | apply below_alloc)⟩
      subst h117
      cases h4 : fourF s.data.toList 4 0 p2 with
      | err er q =>
        have HO := Aside0.mk (show escF s.data.toList p = .err er q by rw [HE2.out, if_pos rfl, h4, escU])
        have H4 := Aside0.mk h4
        have hne := fourF_err h4
        have e1 : ((er : Int) != 0) = true := bne_iff_ne.mpr (nz_int hne)
        have HNE := Aside0.mk hne
        clear h4 hne
        go_wp2_with (go_at_call 87; (with_reducible refine (rfour_calls s p2 _ hs HP2.out).mono ?_); rintro e w6 ⟨hf, rfl⟩; rw [H4.out] at hf; obtain ⟨_, rfl⟩ := hf)
        refine bodyPost_ret (esc_results rfl rfl rfl rfl) rfl ?_
        rw [HO.out]
        exact ⟨HNE.out, rfl, by repeat (first | exact HB.out | apply pw_below_drewN | apply below_drew1 | apply below_alloc)⟩
      | val x q =>
        have hbd := fourF_bd _ _ _ _ _ h4
        have hx65 : x ≤ 65535 := by have := hbd.1; omega
        have hqq : q ≤ 1000006 := by have := hbd.2; have := HPP.out; omega
        have HE3 := Aside0.mk (show escF s.data.toList p = escU s.data.toList p (.val x q) by rw [HE2.out, if_pos rfl, h4])
        have H4 := Aside0.mk h4
        clear h4 hbd
        by_cases hsur : x < 55296 ∨ 57343 < x
        · have HO := Aside0.mk (show escF s.data.toList p = .val x q by rw [HE3.out, escU, if_neg (by omega), if_neg (by omega)])
          have HRO := Aside0.mk (show RuneOK x by unfold RuneOK; omega)
          rcases hsur with hsur | hsur
          · have c1 : decide ((x : Int) < 55296) = true := decide_eq_true (by omega)
            clear hsur
            go_wp2_with (first | (go_at_call 87; (with_reducible refine (rfour_calls s p2 _ hs HP2.out).mono ?_); rintro e w6 ⟨hf, rfl⟩; rw [H4.out] at hf; obtain rfl := hf) | (go_at_call 88; (with_reducible refine (rutf_calls x _ HRO.out).mono ?_); intro e w7 hu; obtain ⟨rfl, rfl⟩ := hu))
            refine bodyPost_ret (esc_results rfl rfl rfl rfl) rfl ?_
            rw [HO.out]
            exact esc_done HRO.out (by repeat (first | exact HB.out | apply pw_below_drewN | apply below_drew1 | apply below_alloc)) rfl rfl
          · have c1 : decide ((x : Int) < 55296) = false := decide_eq_false (by omega)
            have c2 : decide (57343 < (x : Int)) = true := decide_eq_true (by omega)
            clear hsur
            go_wp2_with (first | (go_at_call 87; (with_reducible refine (rfour_calls s p2 _ hs HP2.out).mono ?_); rintro e w6 ⟨hf, rfl⟩; rw [H4.out] at hf; obtain rfl := hf) | (go_at_call 88; (with_reducible refine (rutf_calls x _ HRO.out).mono ?_); intro e w7 hu; obtain ⟨rfl, rfl⟩ := hu))
            refine bodyPost_ret (esc_results rfl rfl rfl rfl) rfl ?_
            rw [HO.out]
            exact esc_done HRO.out (by repeat (first | exact HB.out | apply pw_below_drewN | apply below_drew1 | apply below_alloc)) rfl rfl
        have c1 : decide ((x : Int) < 55296) = false := decide_eq_false (by omega)
        have c2 : decide (57343 < (x : Int)) = false := decide_eq_false (by omega)
        by_cases hlo : 56319 < x
        · have c3 : decide (56319 < (x : Int)) = true := decide_eq_true (by omega)
          have HO := Aside0.mk (show escF s.data.toList p = .err 43 p by rw [HE3.out, escU, if_pos (by omega)])
          clear hsur hlo
          go_wp2_with (go_at_call 87; (with_reducible refine (rfour_calls s p2 _ hs HP2.out).mono ?_); rintro e w6 ⟨hf, rfl⟩; rw [H4.out] at hf; obtain rfl := hf)
          refine bodyPost_ret (esc_results rfl rfl rfl rfl) rfl ?_
          rw [HO.out]
          exact ⟨by decide, rfl, by repeat (first | exact HB.out | apply pw_below_drewN | apply below_drew1 | apply below_alloc)⟩
        have c3 : decide (56319 < (x : Int)) = false := decide_eq_false (by omega)
        have HE4 := Aside0.mk (show escF s.data.toList p = escV s.data.toList p x (mustF s.data.toList p [92, 117] q) by rw [HE3.out, escU, if_neg (by omega), if_pos (by omega)])
        have HX := Aside0.mk (show 55296 ≤ x ∧ x ≤ 56319 by omega)
        have hx1 : 55296 ≤ (x : Int) := by omega
        have hx2 : (x : Int) ≤ 56319 := by omega
        clear hsur hlo
        go_wp2_with (go_at_call 87; (with_reducible refine (rfour_calls s p2 _ hs HP2.out).mono ?_); rintro e w6 ⟨hf, rfl⟩; rw [H4.out] at hf; obtain rfl := hf)
        go_loopg [16] 3 (fun g2 v16 wr2 => ∃ i : Nat, v16 = .int .i64 (i : Int) ∧ i ≤ 2 ∧ g2 + i = 3 ∧ Aside0 (Below W.heap.size W wr2) ∧ Aside0 (mustF s.data.toList p [92, 117] q = mustF s.data.toList p (([92, 117] : List UInt8).drop i) (q + i)))
        case atStart => exact ⟨0, rfl, by omega, by omega, HB, ⟨rfl⟩⟩
        case round =>
          obtain ⟨i, rfl, hi, hg2, HB2, HM2⟩ := hrel
          clear HB
          have HB := HB2
          have hqi : (q : Int) + (i : Int) = ((q + i : Nat) : Int) := by omega
          have hqb : q + i ≤ 1000008 := by omega
          by_cases hi2 : i < 2
          · cases gk with
            | zero => omega
            | succ g2 =>
              obtain ⟨c, hc, hcx⟩ := drop_at (⟨#[92, 117]⟩ : ByteArray) i hi2
              have hcl : ([92, 117] : List UInt8).drop i = c :: ([92, 117] : List UInt8).drop (i + 1) := hc
              have i0 : (0 ≤ (i : Int)) = True := eq_true (by omega)
              have i1 : ((i : Int) < 2) = True := eq_true (by omega)
              have i2 : (i < 2) = True := eq_true hi2
              have HCL := Aside0.mk hcl
              clear hc hcl
              by_cases hend2 : s.size ≤ q + i
              · have HO := Aside0.mk (show escF s.data.toList p = .err 3 s.size by
                  have hm : mustF s.data.toList p [92, 117] q = .err 3 s.data.toList.length := by rw [HM2.out, HCL.out, mustF_end (List.getElem?_eq_none (by rw [size_data]; exact hend2))]
                  rw [HE4.out, hm, escV, size_data])
                have d2 : decide (s.size ≤ q + i) = true := decide_eq_true hend2
                clear hend2
                generalize q + i = qi at *
                go_wp2
                refine bodyPost_ret (esc_results rfl rfl rfl rfl) rfl ?_
                rw [HO.out]
                exact ⟨by decide, rfl, by repeat (first | exact HB.out | apply pw_below_drewN | apply below_drew1 | apply below_alloc)⟩
              · obtain ⟨v, hv, hvx⟩ := drop_at s (q + i) (by omega)
                have hv' := at_drop hv
                have d2 : decide (s.size ≤ q + i) = false := decide_eq_false hend2
                have v0 : (0 ≤ ((q + i : Nat) : Int)) = True := eq_true (by omega)
                have v1 : (((q + i : Nat) : Int) < (s.size : Int)) = True := eq_true (by omega)
                have HQN := Aside0.mk (show q + (i + 1) = q + i + 1 from rfl)
                clear hv hend2
                by_cases he : v = c
                · have HM3 := Aside0.mk (show mustF s.data.toList p [92, 117] q = mustF s.data.toList p (([92, 117] : List UInt8).drop (i + 1)) (q + (i + 1)) by rw [HM2.out, HCL.out, mustF_step hv' he]; rfl)
                  have e1 : ((v.toNat : Int) != (c.toNat : Int)) = false := by rw [he]; exact bne_self_eq_false _
                  have e2 : (v.toNat != c.toNat) = false := by rw [he]; exact bne_self_eq_false _
                  clear he hv'
                  generalize q + i = qi at *
                  go_wp2
                  go_quiet (fail)
                  go_wp2
                  go_roundg g2
                  case measure => omega
                  case rel => exact ⟨i + 1, congrArg (Value.int .i64) (cast1 i), by omega, by omega, ⟨by repeat (first | exact HB.out | apply pw_below_drewN | apply below_drew1 | apply below_alloc)⟩, HM3⟩
                · have HO := Aside0.mk (show escF s.data.toList p = .err 43 p by
                    have hm : mustF s.data.toList p [92, 117] q = .err 43 p := by rw [HM2.out, HCL.out, mustF_no hv' he]
                    rw [HE4.out, hm, escV])
                  have hne : ¬ (v.toNat : Int) = (c.toNat : Int) := fun hh => he ((u8_eq v c).2 hh)
                  have e1 : ((v.toNat : Int) != (c.toNat : Int)) = true := bne_iff_ne.mpr hne
                  have e2 : (v.toNat != c.toNat) = true := bne_iff_ne.mpr (fun hh => hne (congrArg Int.ofNat hh))
                  clear he hv' hne
                  generalize q + i = qi at *
                  go_wp2
                  go_quiet (fail)
                  go_wp2
                  refine bodyPost_ret (esc_results rfl rfl rfl rfl) rfl ?_
                  rw [HO.out]
                  exact ⟨by decide, rfl, by repeat (first | exact HB.out | apply pw_below_drewN | apply below_drew1 | apply below_alloc)⟩
          · obtain rfl : i = 2 := by omega
            have hm : mustF s.data.toList p [92, 117] q = .val () (q + 2) := HM2.out
            have w3r : (q : Int) + 2 = ((q + 2 : Nat) : Int) := by omega
            have HE5 := Aside0.mk (show escF s.data.toList p = escY p x (fourF s.data.toList 4 0 (q + 2)) by rw [HE4.out, hm, escV])
            have HQ2 := Aside0.mk (show q + 2 ≤ 2000000 by omega)
            have hq2 := HQ2.out
            clear hm hqi hqb
            generalize q + 2 = q2n at *
            cases h4 : fourF s.data.toList 4 0 q2n with
            | err er q5 =>
              have HO := Aside0.mk (show escF s.data.toList p = .err er q5 by rw [HE5.out, h4, escY])
              have H5 := Aside0.mk h4
              have hne := fourF_err h4
              have e1 : ((er : Int) != 0) = true := bne_iff_ne.mpr (nz_int hne)
              have HNE := Aside0.mk hne
              clear h4 hne
              go_wp2_with (go_at_call 87; (with_reducible refine (rfour_calls s q2n _ hs HQ2.out).mono ?_); rintro e w6 ⟨hf, rfl⟩; rw [H5.out] at hf; obtain ⟨_, rfl⟩ := hf)
              refine bodyPost_ret (esc_results rfl rfl rfl rfl) rfl ?_
              rw [HO.out]
              exact ⟨HNE.out, rfl, by repeat (first | exact HB.out | apply pw_below_drewN | apply below_drew1 | apply below_alloc)⟩
            | val y q5 =>
              have hbd := fourF_bd _ _ _ _ _ h4
              have hy65 : y ≤ 65535 := by have := hbd.1; omega
              have HE6 := Aside0.mk (show escF s.data.toList p = escY p x (.val y q5) by rw [HE5.out, h4])
              have H5 := Aside0.mk h4
              clear h4 hbd
              by_cases hy : y < 56320
              · have c4 : decide ((y : Int) < 56320) = true := decide_eq_true (by omega)
                have HO := Aside0.mk (show escF s.data.toList p = .err 43 p by rw [HE6.out, escY, if_pos (.inl hy)])
                clear hy
                go_wp2_with (go_at_call 87; (with_reducible refine (rfour_calls s q2n _ hs HQ2.out).mono ?_); rintro e w6 ⟨hf, rfl⟩; rw [H5.out] at hf; obtain rfl := hf)
                refine bodyPost_ret (esc_results rfl rfl rfl rfl) rfl ?_
                rw [HO.out]
                exact ⟨by decide, rfl, by repeat (first | exact HB.out | apply pw_below_drewN | apply below_drew1 | apply below_alloc)⟩
              · have c4 : decide ((y : Int) < 56320) = false := decide_eq_false (by omega)
                by_cases hy2 : 57343 < y
                · have c5 : decide (57343 < (y : Int)) = true := decide_eq_true (by omega)
                  have HO := Aside0.mk (show escF s.data.toList p = .err 43 p by rw [HE6.out, escY, if_pos (.inr hy2)])
                  clear hy hy2
                  go_wp2_with (go_at_call 87; (with_reducible refine (rfour_calls s q2n _ hs HQ2.out).mono ?_); rintro e w6 ⟨hf, rfl⟩; rw [H5.out] at hf; obtain rfl := hf)
                  refine bodyPost_ret (esc_results rfl rfl rfl rfl) rfl ?_
                  rw [HO.out]
                  exact ⟨by decide, rfl, by repeat (first | exact HB.out | apply pw_below_drewN | apply below_drew1 | apply below_alloc)⟩
                · have c5 : decide (57343 < (y : Int)) = false := decide_eq_false (by omega)
                  have HO := Aside0.mk (show escF s.data.toList p = .val (65536 + (x - 55296) * 1024 + (y - 56320)) q5 by rw [HE6.out, escY, if_neg (by omega)])
                  have HRO := Aside0.mk (show RuneOK (65536 + (x - 55296) * 1024 + (y - 56320)) by have := HX.out; unfold RuneOK; omega)
                  have hy3 : 56320 ≤ (y : Int) := by omega
                  have hy4 : (y : Int) ≤ 57343 := by omega
                  have HLS := Aside0.mk (lone_sum x y (by have := HX.out; omega) (by omega))
                  clear hy hy2
                  generalize 65536 + (x - 55296) * 1024 + (y - 56320) = z at *
                  go_wp2_with (first | (go_at_call 87; (with_reducible refine (rfour_calls s q2n _ hs HQ2.out).mono ?_); rintro e w6 ⟨hf, rfl⟩; rw [H5.out] at hf; obtain rfl := hf) | (go_at_call 88; rw [HLS.out]; (with_reducible refine (rutf_calls z _ HRO.out).mono ?_); intro e w7 hu; obtain ⟨rfl, rfl⟩ := hu))
                  refine bodyPost_ret (esc_results rfl rfl rfl rfl) rfl ?_
                  rw [HO.out]
                  exact esc_done HRO.out (by repeat (first | exact HB.out | apply pw_below_drewN | apply below_drew1 | apply below_alloc)) rfl rfl
end Go.Proofs.YtaalajhmfdcalaaDoor.X
namespace Go.Proofs.YtaalajhmfdcalaaDoor.X
open Go.RowKit Go.Lib Go.Proofs.YtaalajhmfdcalaaDoorW.PrintWords
theorem dN_bad {n b0 b1 b2 b3 : Nat} (h0 : 128 ≤ b0) (h256 : b0 < 256) (h : (b0 < 194 ∨ 244 < b0) ∨ (194 ≤ b0 ∧ b0 ≤ 223 ∧ (n ≤ 1 ∨ b1 < 128 ∨ (191 < b1 ∧ b1 < 256))) ∨ (224 ≤ b0 ∧ b0 ≤ 239 ∧ (n ≤ 2 ∨ (b1 < 256 ∧ (b1 < (if b0 = 224 then 160 else 128) ∨ (if b0 = 237 then 159 else 191) < b1)) ∨ (b2 < 256 ∧ (b2 < 128 ∨ 191 < b2)))) ∨ (240 ≤ b0 ∧ b0 ≤ 244 ∧ (n ≤ 3 ∨ (b1 < 256 ∧ (b1 < (if b0 = 240 then 144 else 128) ∨ (if b0 = 244 then 143 else 191) < b1)) ∨ (b2 < 256 ∧ (b2 < 128 ∨ 191 < b2)) ∨ (b3 < 256 ∧ (b3 < 128 ∨ 191 < b3))))) : decodeN n b0 b1 b2 b3 = (65533, 1) := by
  unfold decodeN
  (repeat' split) <;> first | rfl | (exfalso; (repeat' split at h) <;> omega)
theorem dN_two {n b0 b1 b2 b3 : Nat} (h0 : 194 ≤ b0) (h1 : b0 ≤ 223) (hn : 1 < n) (h2 : 128 ≤ b1) (h3 : b1 ≤ 191) : (decodeN n b0 b1 b2 b3).2 = 2 := by
  unfold decodeN
  (repeat' split) <;> first | rfl | (exfalso; omega)
theorem dN_three {n b0 b1 b2 b3 : Nat} (h0 : 224 ≤ b0) (h1 : b0 ≤ 239) (hn : 2 < n) (h2 : (if b0 = 224 then 160 else 128) ≤ b1) (h3 : b1 ≤ (if b0 = 237 then 159 else 191)) (h4 : 128 ≤ b2) (h5 : b2 ≤ 191) : (decodeN n b0 b1 b2 b3).2 = 3 := by
  unfold decodeN
  (repeat' split) <;> first | rfl | (exfalso; (repeat' split at h2) <;> (repeat' split at h3) <;> omega)
theorem dN_four {n b0 b1 b2 b3 : Nat} (h0 : 240 ≤ b0) (h1 : b0 ≤ 244) (hn : 3 < n) (h2 : (if b0 = 240 then 144 else 128) ≤ b1) (h3 : b1 ≤ (if b0 = 244 then 143 else 191)) (h4 : 128 ≤ b2) (h5 : b2 ≤ 191) (h6 : 128 ≤ b3) (h7 : b3 ≤ 191) : (decodeN n b0 b1 b2 b3).2 = 4 := by
  unfold decodeN
  (repeat' split) <;> first | rfl | (exfalso; (repeat' split at h2) <;> (repeat' split at h3) <;> omega)
theorem cont_cons0 (k : Nat) (x : UInt8) (r : List UInt8) (lo hi n : Int) : contZ (k + 1) (x :: r) lo hi n = if (x.toNat : Int) < lo ∨ hi < (x.toNat : Int) then 0 else contZ k r 128 191 n := rfl
theorem cont_zero0 (l : List UInt8) (lo hi n : Int) : contZ 0 l lo hi n = n := by cases l <;> rfl
def ChD (l : List UInt8) : Prop :=
  (charZ l = -1 ∧ decodeGo ⟨l.toArray⟩ = (65533, 1) ∧ fullF l = false) ∨ (charZ l = 0 ∧ decodeGo ⟨l.toArray⟩ = (65533, 1) ∧ fullF l = true) ∨
    ∃ n : Nat, charZ l = (n : Int) ∧ 2 ≤ n ∧ n ≤ 4 ∧ n ≤ l.length ∧ (decodeGo ⟨l.toArray⟩).2 = n
theorem full_1 {c : UInt8} {r : List UInt8} (h : c.toNat < 194 ∨ 244 < c.toNat) : fullF (c :: r) = true := by
  unfold fullF
  simp only [List.length_cons]
  rw [if_pos (by (repeat' split) <;> omega)]
theorem full_long {c : UInt8} {r : List UInt8} (n : Nat) (h : (194 ≤ c.toNat ∧ c.toNat ≤ 223 ∧ n = 2) ∨ (224 ≤ c.toNat ∧ c.toNat ≤ 239 ∧ n = 3) ∨ (240 ≤ c.toNat ∧ c.toNat ≤ 244 ∧ n = 4)) (hl : n ≤ r.length + 1) : fullF (c :: r) = true := by
  unfold fullF
  simp only [List.length_cons]
  rw [if_pos (by (repeat' split) <;> omega)]
theorem full_nil {c : UInt8} (h : 194 ≤ c.toNat ∧ c.toNat ≤ 244) : fullF [c] = false := by
  unfold fullF
  simp only [List.length_cons, List.length_nil]
  rw [if_neg (by (repeat' split) <;> omega)]
theorem loZ_eq (c : UInt8) : loZ (c.toNat : Int) = ((if c.toNat = 224 then 160 else if c.toNat = 240 then 144 else 128 : Nat) : Int) := by
  unfold loZ
  (repeat' split) <;> omega
theorem hiZ_eq (c : UInt8) : hiZ (c.toNat : Int) = ((if c.toNat = 237 then 159 else if c.toNat = 244 then 143 else 191 : Nat) : Int) := by
  unfold hiZ
  (repeat' split) <;> omega
def fullT : List UInt8 → Bool
  | [] => false
  | e :: _ => decide (e.toNat < 128 ∨ 191 < e.toNat)
theorem full_two {c d : UInt8} {r : List UInt8} (h : 224 ≤ c.toNat ∧ c.toNat ≤ 244) (hl : (224 ≤ c.toNat ∧ c.toNat ≤ 239 ∧ r.length = 0) ∨ (240 ≤ c.toNat ∧ r.length ≤ 1)) : fullF (c :: d :: r) = if (d.toNat : Int) < loZ c.toNat ∨ hiZ c.toNat < (d.toNat : Int) then true else fullT r := by
  rw [loZ_eq, hiZ_eq]
  unfold fullF
  simp only [List.length_cons]
  rw [if_neg (by (repeat' split) <;> omega)]
  by_cases hh : d.toNat < (if c.toNat = 224 then 160 else if c.toNat = 240 then 144 else 128) ∨ (if c.toNat = 237 then 159 else if c.toNat = 244 then 143 else 191) < d.toNat
  · rw [if_pos hh, if_pos (by omega)]
  · rw [if_neg hh, if_neg (by omega)]
    cases r <;> rfl
set_option maxHeartbeats 4000000 in
theorem char_dec (c : UInt8) (r : List UInt8) (hc : 128 ≤ c.toNat) : ChD (c :: r) := by
  have hb := c.toNat_lt
  have hg := decG_eq (c :: r) (by simp)
  simp only [List.getElem?_cons_zero, Option.getD_some, List.getElem?_cons_succ, List.length_cons] at hg
  unfold ChD
  rw [hg]
  have hch : charZ (c :: r) = if cntZ c.toNat ≤ 1 then (cntZ c.toNat : Int) else contZ (cntZ c.toNat - 1) r (loZ c.toNat) (hiZ c.toNat) (cntZ c.toNat) := rfl
  rcases (by omega : (c.toNat < 194 ∨ 244 < c.toNat) ∨ (194 ≤ c.toNat ∧ c.toNat ≤ 223) ∨ (224 ≤ c.toNat ∧ c.toNat ≤ 239) ∨ (240 ≤ c.toNat ∧ c.toNat ≤ 244)) with h | ⟨h1, h2⟩ | ⟨h1, h2⟩ | ⟨h1, h2⟩
  · have e : cntZ (c.toNat : Int) = 0 := by unfold cntZ; (repeat' split) <;> omega
    rw [hch, e]
    exact .inr (.inl ⟨rfl, dN_bad hc hb (.inl h), full_1 h⟩)
  · have e : cntZ (c.toNat : Int) = 2 := by unfold cntZ; (repeat' split) <;> omega
    have el : loZ (c.toNat : Int) = 128 := by unfold loZ; (repeat' split) <;> omega
    have eh : hiZ (c.toNat : Int) = 191 := by unfold hiZ; (repeat' split) <;> omega
    rw [hch, e, el, eh, if_neg (by decide), show (2 : Nat) - 1 = 0 + 1 from rfl]
    cases r with
    | nil => exact .inl ⟨rfl, dN_bad hc hb (.inr (.inl ⟨h1, h2, .inl (by simp)⟩)), full_nil ⟨h1, by omega⟩⟩
    | cons x r =>
      have hx := x.toNat_lt
      rw [cont_cons0, cont_zero0]
      simp only [List.getElem?_cons_zero, Option.getD_some, List.length_cons]
      by_cases hh : (x.toNat : Int) < 128 ∨ 191 < (x.toNat : Int)
      · rw [if_pos hh]
        exact .inr (.inl ⟨rfl, dN_bad hc hb (.inr (.inl ⟨h1, h2, by omega⟩)), full_long 2 (.inl ⟨h1, h2, rfl⟩) (by simp)⟩)
      · rw [if_neg hh]
        exact .inr (.inr ⟨2, rfl, by omega, by omega, by omega, dN_two h1 h2 (by omega) (by omega) (by omega)⟩)
  · have e : cntZ (c.toNat : Int) = 3 := by unfold cntZ; (repeat' split) <;> omega
    have el := loZ_eq c
    have eh := hiZ_eq c
    rw [if_neg (show ¬ c.toNat = 240 by omega)] at el
    rw [if_neg (show ¬ c.toNat = 244 by omega)] at eh
    rw [hch, e, if_neg (by decide), show (3 : Nat) - 1 = 0 + 1 + 1 from rfl]
    cases r with
    | nil => exact .inl ⟨rfl, dN_bad hc hb (.inr (.inr (.inl ⟨h1, h2, .inl (by simp)⟩))), full_nil ⟨by omega, by omega⟩⟩
    | cons x r =>
      have hx := x.toNat_lt
      rw [cont_cons0]
      simp only [List.getElem?_cons_zero, Option.getD_some, List.length_cons, List.getElem?_cons_succ]
      by_cases hh : (x.toNat : Int) < loZ c.toNat ∨ hiZ c.toNat < (x.toNat : Int)
      · rw [if_pos hh]
        refine .inr (.inl ⟨rfl, dN_bad hc hb (.inr (.inr (.inl ⟨h1, h2, .inr (.inl ⟨hx, ?_⟩)⟩))), ?_⟩)
        · rw [el, eh] at hh; omega
        · cases r with
          | nil => rw [full_two ⟨h1, by omega⟩ (.inl ⟨h1, h2, rfl⟩), if_pos hh]
          | cons y r => exact full_long 3 (.inr (.inl ⟨h1, h2, rfl⟩)) (by simp)
      · rw [if_neg hh]
        have hh' := hh
        rw [el, eh] at hh'
        cases r with
        | nil =>
          refine .inl ⟨rfl, dN_bad hc hb (.inr (.inr (.inl ⟨h1, h2, .inl (by simp)⟩))), ?_⟩
          rw [full_two ⟨h1, by omega⟩ (.inl ⟨h1, h2, rfl⟩), if_neg hh]
          rfl
        | cons y r =>
          have hy := y.toNat_lt
          rw [cont_cons0, cont_zero0]
          simp only [List.getElem?_cons_zero, Option.getD_some, List.length_cons, List.getElem?_cons_succ]
          by_cases h3 : (y.toNat : Int) < 128 ∨ 191 < (y.toNat : Int)
          · rw [if_pos h3]
            exact .inr (.inl ⟨rfl, dN_bad hc hb (.inr (.inr (.inl ⟨h1, h2, .inr (.inr ⟨hy, by omega⟩)⟩))), full_long 3 (.inr (.inl ⟨h1, h2, rfl⟩)) (by simp)⟩)
          · rw [if_neg h3]
            exact .inr (.inr ⟨3, rfl, by omega, by omega, by omega, dN_three h1 h2 (by omega) (by omega) (by omega) (by omega) (by omega)⟩)
  · have e : cntZ (c.toNat : Int) = 4 := by unfold cntZ; (repeat' split) <;> omega
    have el := loZ_eq c
    have eh := hiZ_eq c
    rw [if_neg (show ¬ c.toNat = 224 by omega)] at el
    rw [if_neg (show ¬ c.toNat = 237 by omega)] at eh
    rw [hch, e, if_neg (by decide), show (4 : Nat) - 1 = 0 + 1 + 1 + 1 from rfl]
    cases r with
    | nil => exact .inl ⟨rfl, dN_bad hc hb (.inr (.inr (.inr ⟨h1, h2, .inl (by simp)⟩))), full_nil ⟨by omega, by omega⟩⟩
    | cons x r =>
      have hx := x.toNat_lt
      rw [cont_cons0]
      simp only [List.getElem?_cons_zero, Option.getD_some, List.length_cons, List.getElem?_cons_succ]
      by_cases hh : (x.toNat : Int) < loZ c.toNat ∨ hiZ c.toNat < (x.toNat : Int)
      · rw [if_pos hh]
        refine .inr (.inl ⟨rfl, dN_bad hc hb (.inr (.inr (.inr ⟨h1, h2, .inr (.inl ⟨hx, ?_⟩)⟩))), ?_⟩)
        · rw [el, eh] at hh; omega
        · by_cases hl : r.length ≤ 1
          · rw [full_two ⟨by omega, by omega⟩ (.inr ⟨h1, hl⟩), if_pos hh]
          · exact full_long 4 (.inr (.inr ⟨h1, h2, rfl⟩)) (by simp; omega)
      · rw [if_neg hh]
        have hh' := hh
        rw [el, eh] at hh'
        cases r with
        | nil =>
          refine .inl ⟨rfl, dN_bad hc hb (.inr (.inr (.inr ⟨h1, h2, .inl (by simp)⟩))), ?_⟩
          rw [full_two ⟨by omega, by omega⟩ (.inr ⟨h1, by simp⟩), if_neg hh]
          rfl
        | cons y r =>
          have hy := y.toNat_lt
          rw [cont_cons0]
          simp only [List.getElem?_cons_zero, Option.getD_some, List.length_cons, List.getElem?_cons_succ]
          by_cases h3 : (y.toNat : Int) < 128 ∨ 191 < (y.toNat : Int)
          · rw [if_pos h3]
            refine .inr (.inl ⟨rfl, dN_bad hc hb (.inr (.inr (.inr ⟨h1, h2, .inr (.inr (.inl ⟨hy, by omega⟩))⟩))), ?_⟩)
            cases r with
            | nil => rw [full_two ⟨by omega, by omega⟩ (.inr ⟨h1, by simp⟩), if_neg hh]; simp only [fullT, decide_eq_true_eq]; omega
            | cons z r => exact full_long 4 (.inr (.inr ⟨h1, h2, rfl⟩)) (by simp)
          · rw [if_neg h3]
            cases r with
            | nil =>
              refine .inl ⟨rfl, dN_bad hc hb (.inr (.inr (.inr ⟨h1, h2, .inl (by simp)⟩))), ?_⟩
              rw [full_two ⟨by omega, by omega⟩ (.inr ⟨h1, by simp⟩), if_neg hh]
              simp only [fullT, decide_eq_false_iff_not]
              omega
            | cons z r =>
              have hz := z.toNat_lt
              rw [cont_cons0, cont_zero0]
              simp only [List.getElem?_cons_zero, Option.getD_some, List.length_cons]
              by_cases h4 : (z.toNat : Int) < 128 ∨ 191 < (z.toNat : Int)
              · rw [if_pos h4]
                exact .inr (.inl ⟨rfl, dN_bad hc hb (.inr (.inr (.inr ⟨h1, h2, .inr (.inr (.inr ⟨hz, by omega⟩))⟩))), full_long 4 (.inr (.inr ⟨h1, h2, rfl⟩)) (by simp)⟩)
              · rw [if_neg h4]
                exact .inr (.inr ⟨4, rfl, by omega, by omega, by omega, dN_four h1 h2 (by omega) (by omega) (by omega) (by omega) (by omega) (by omega) (by omega)⟩)
end Go.Proofs.YtaalajhmfdcalaaDoor.X
namespace Go.Proofs.YtaalajhmfdcalaaDoor.X
open Go.RowKit Go.Lib Go.Proofs.YtaalajhmfdcalaaDoorW.PrintWords Go.Proofs.YtaalajhmfdcalaaDoorW.PrintLast Go.Proofs.YtaalajhmfdcalaaDoorW.PrintMore
theorem Own.row {P : Program} {ops : Array Oper} {rest : List Oper} {o : Oper} {a : Act} {Q : Exit → Act → World → Prop} {B : Nat} {W : World} (hgd : o.guard = none) (s x : Operand) (t : TypeId)
    (ho : o.op = .call { callee := .builtin .append, args := #[s, x], argTypes := #[t, t] }) (ht : P.underlying t = some (.slice 5)) (hinfo : (P.info? 5).map (fun i => (i.zero, i.size, i.bytes)) = some (some (.int .u8 0), 1, 1))
    (v : Value) (l ys : List UInt8) (g : Nat) (hs : a.eval s = v) (hx : a.eval x = .slice (some ⟨g, 0, none⟩) ys.length ys.length) (hg : W.heap[g]? = some (.cells (cellsOf ys).toArray 5 (0, 0))) (HO : Own B W v l) (hl : l.length + ys.length ≤ 140737488355328)
    (h : ∀ v1 w1, Own B w1 v1 (l ++ ys) → W.grownBy w1 v.ownBlock → (v1.ownBlock = v.ownBlock ∨ ∃ b, v1.ownBlock = some b ∧ W.heap.size ≤ b) → wpList P ops Q rest (a.put o.dst v1) w1) :
    wpList P ops Q (o :: rest) a W := by
  refine Kd.R_append_row (fun b : UInt8 => Value.int .u8 b.toNat) 0 (h1 := fun _ => rfl) (w0 := W) B hgd s x t 5 (.int .u8 0) 1 ho ht hinfo rfl (by decide) v l ys (some ⟨g, 0, none⟩) ys.length ys.length (fun _ => True) hs hx (fun _ _ => trivial) (Kd.R_of_own HO.1 (fun _ _ => trivial)) ⟨rfl, by omega, fun _ => ⟨⟨g, 0, none⟩, rfl, fun j p hj => ⟨[.int .u8 p.toNat], rfl, rfl, fun i u hu => ?_⟩⟩⟩ (Below.refl _ _) HO.2 (by omega) ?_
  · have hi : i = 0 := by
      have := (List.getElem?_eq_some_iff.1 hu).1
      simp at this
      exact this
    subst hi
    simp at hu
    subst hu
    show W.cell? ((⟨g, 0, none⟩ : Addr).add (j * 1 + 0)) = _
    rw [show (⟨g, 0, none⟩ : Addr).add (j * 1 + 0) = ⟨g, j, none⟩ by (simp [Addr.add]; exact fun h => h.symm), blk_cell hg j]
    simp [cellsOf, hj]
  · intro v1 w1 hr hb hg1 hat
    exact h v1 w1 ⟨by have := Kd.own_of_R hr; exact this, Nat.le_trans HO.2 hg1.size⟩ hg1 hat
structure SSt (W wr : World) (l : List UInt8) (sl : Value) : Prop where
  res : wr.heap[W.heap.size]? = some (.cells #[.int .i64 0, .string (⟨#[]⟩ : ByteArray), .slice none 0 0, .slice none 0 0, .int .i64 0, .int .i64 0, .int .i64 0] 53 (0, 0))
  own : Own (W.heap.size + 1) wr sl l
  bel : Below W.heap.size W wr
theorem SSt.below {W wr w1 : World} {l : List UInt8} {sl : Value} (h : SSt W wr l sl) (hb : Below wr.heap.size wr w1) : SSt W w1 l sl :=
  ⟨(hb.block _ (lt_of_block h.res)).trans h.res, h.own.heap hb.size fun g hg => hb.block g (h.own.lt g hg).2, below_step h.bel hb⟩
theorem SSt.grown {W wr w5 : World} {l l' : List UInt8} {sl v1 : Value} (h : SSt W wr l sl) (ho : Own (W.heap.size + 1) w5 v1 l') (hg : wr.grownBy w5 sl.ownBlock) : SSt W w5 l' v1 := by
  have hlt := lt_of_block h.res
  refine ⟨(hg.block _ hlt (fun hh => by have := (h.own.lt _ hh.symm).1; omega)).trans h.res, ho, ?_⟩
  exact h.bel.trans ⟨hg.os, hg.tape, hg.output, hg.size, fun k hk => hg.block k (Nat.lt_trans hk hlt) (fun hh => by have := (h.own.lt k hh.symm).1; omega)⟩
theorem encR_le (r : Nat) : (encodeRune (r : Int)).length ≤ 4 := by
  unfold encodeRune encodeRuneZ
  rw [List.length_map]
  (repeat' split) <;> simp
theorem charZ_ascii {c : UInt8} (r : List UInt8) (h : c.toNat < 128) : charZ (c :: r) = 1 := by
  have hch : charZ (c :: r) = if cntZ c.toNat ≤ 1 then (cntZ c.toNat : Int) else contZ (cntZ c.toNat - 1) r (loZ c.toNat) (hiZ c.toNat) (cntZ c.toNat) := rfl
  have e : cntZ (c.toNat : Int) = 1 := by unfold cntZ; rw [if_pos (by omega)]
  rw [hch, e]
  rfl
theorem textF_char {s : List UInt8} {k : Nat} {out : List UInt8} {p : Nat} {c : UInt8} {n : Nat} (h : s[p]? = some c) (h34 : c ≠ 34) (h32 : ¬ c.toNat < 32) (h92 : c ≠ 92) (hd : s.drop p = c :: s.drop (p + 1)) (hn : charZ (s.drop p) = (n : Int)) (h1 : 1 ≤ n) : textF s (k + 1) out p = textF s k (out ++ (s.drop p).take n) (p + n) ∧ n ≤ (s.drop p).length := by
  by_cases h128 : c.toNat < 128
  · have : charZ (s.drop p) = 1 := by
      rw [hd]; exact charZ_ascii _ h128
    have hn1 : n = 1 := by omega
    subst hn1
    rw [textF_ascii s k out p c h h34 h32 h92 h128, hd]
    exact ⟨rfl, by simp⟩
  · have hD := char_dec c (s.drop (p + 1)) (by omega)
    rw [← hd] at hD
    rw [textF_rune s k out p c h h128]
    rcases hD with ⟨e, _, _⟩ | ⟨e, _, _⟩ | ⟨m, e, m2, m4, ml, md⟩
    · rw [hn] at e; omega
    · rw [hn] at e; omega
    · have : m = n := by rw [hn] at e; omega
      subst this
      rw [if_neg (fun hh => by rw [md] at hh; omega), md]
      exact ⟨rfl, ml⟩
theorem textF_charbad {s : List UInt8} {k : Nat} {out : List UInt8} {p : Nat} {c : UInt8} (h : s[p]? = some c) (hd : s.drop p = c :: s.drop (p + 1)) (hn : charZ (s.drop p) < 1) : (charZ (s.drop p) = -1 ∧ textF s (k + 1) out p = some (.err 3 s.length) ∨ charZ (s.drop p) = 0 ∧ textF s (k + 1) out p = some (.err 43 p)) ∨ c.toNat < 128 := by
  by_cases h128 : c.toNat < 128
  · exact .inr h128
  · left
    have hD := char_dec c (s.drop (p + 1)) (by omega)
    rw [← hd] at hD
    rw [textF_rune s k out p c h h128]
    rcases hD with ⟨e, e2, e3⟩ | ⟨e, e2, e3⟩ | ⟨m, e, m2, m4, ml, md⟩
    · exact .inl ⟨e, by rw [e2, if_pos ⟨rfl, by decide⟩, e3]; rfl⟩
    · exact .inr ⟨e, by rw [e2, if_pos ⟨rfl, by decide⟩, if_pos e3]⟩
    · omega
theorem char_ascii {s : List UInt8} {p : Nat} {c : UInt8} (hd : s.drop p = c :: s.drop (p + 1)) (h128 : c.toNat < 128) : charZ (s.drop p) = 1 := by
  rw [hd]; exact charZ_ascii _ h128
theorem char_small (l : List UInt8) : charZ l = -1 ∨ charZ l = 0 ∨ ∃ n : Nat, charZ l = (n : Int) ∧ 1 ≤ n ∧ n ≤ 4 := by
  cases l with
  | nil => exact .inr (.inl rfl)
  | cons c r =>
    by_cases h : c.toNat < 128
    · exact .inr (.inr ⟨1, charZ_ascii r h, by decide, by decide⟩)
    · rcases char_dec c r (by omega) with ⟨e, _, _⟩ | ⟨e, _, _⟩ | ⟨m, e, m2, m4, _, _⟩
      · exact .inl e
      · exact .inr (.inl e)
      · exact .inr (.inr ⟨m, e, by omega, m4⟩)
theorem ext_bytes (s : ByteArray) (q n qn : Nat) (h : q + n = qn) : (s.extract q qn).data.toList = (s.data.toList.drop q).take n := by
  rw [ext_take s q n qn h]; rfl
set_option maxRecDepth 1000000 in
set_option maxHeartbeats 16000000 in
theorem rstr_calls (s : ByteArray) (k p : Nat) (hs : s.size ≤ 4611686018427387904) (hs2 : s.size ≤ 1000000) (hp : p ≤ s.size) : StrC s k p := by
  intro ot hot W
  have w3p := cast1 p
  have HP1 := Aside0.mk (show p + 1 ≤ s.size + 1 by omega)
  have HOT := Aside0.mk hot
  clear hot
  generalize p + 1 = p1 at *
  have hp1 := HP1.out
  go_enter Tryd.func48, Tryd.ntmps48
  go_wp2
  clear hp1
  go_loopg [5, 6] (k + 1) (fun g v5 v6 wr => ∃ (l : List UInt8) (A : Option Addr) (n c q : Nat), v5 = .slice A n c ∧ v6 = .int .i64 (q : Int) ∧ q ≤ s.size + 1 ∧ l.length ≤ 4 * q ∧ g ≠ 0 ∧ Aside0 (SSt W wr l (.slice A n c)) ∧ Aside0 (textF s.data.toList (g - 1) l q = some ot))
  case atStart => exact ⟨[], none, 0, 0, p1, rfl, congrArg (Value.int .i64) (by first | rfl | exact w3p), by have := HP1.out; omega, Nat.zero_le _, by omega, ⟨heap_alloc_new W _, Own.nil _ _ (by rw [World.size_alloc]; omega), below_alloc (Below.refl _ _) _⟩, HOT⟩
  case round =>
    obtain ⟨l, A, n, c, q, rfl, rfl, hq, hll, hg0, HS, HT⟩ := hrel
    clear w3p
    obtain ⟨z0, z1, z2, z3, z4, z5, z6⟩ := got_cells HS.out.res
    obtain ⟨g0, g1, g2, g3, g4, g5, g6⟩ := got_thaw HS.out.res
    obtain ⟨gk, rfl⟩ : ∃ g', gk = g' + 1 := ⟨gk - 1, by omega⟩
    have HT1 := Aside0.mk (show textF s.data.toList gk l q = some ot from HT.out)
    clear HT hg0
    cases gk with
    | zero => exact absurd HT1.out (by simp [textF])
    | succ g =>
      by_cases hend : s.size ≤ q
      · have HO := Aside0.mk (show ot = .err 3 s.size by
          have := HT1.out
          rw [textF_short _ _ _ _ (List.getElem?_eq_none (by rw [size_data]; exact hend)), size_data] at this
          exact (Option.some.inj this).symm)
        have d1 : decide (s.size ≤ q) = true := decide_eq_true hend
        clear hend
        go_wp2_with (go_at_call 45; (with_reducible refine (rbad_calls _ _ _).mono ?_); intro e w9 hv; obtain ⟨A7, c7, A8, c8, rfl, hb1, hbk, hfin⟩ := GotV.put HS.out.bel (Nat.le_refl _) HS.out.res hv; have HBK := Aside0.mk hbk; have HFIN := Aside0.mk hfin; obtain ⟨z0, z1, z2, z3, z4, z5, z6⟩ := got_cells hb1; obtain ⟨g0, g1, g2, g3, g4, g5, g6⟩ := got_thaw hb1; clear hv hb1 hbk hfin)
        refine bodyPost_ret (results_cell_row rfl _ _ W.heap.size 53 _ (0, 0) _ rfl HBK.out Tryd.underlying53 rfl (by kernel_rfl)) rfl ?_
        rw [HO.out]
        exact ⟨by decide, HFIN.out⟩
      have hlt : q < s.size := by omega
      obtain ⟨u, hu, hx⟩ := drop_at s q hlt
      have hu' := at_drop hu
      have HQ := Aside0.mk hlt
      have d1 : decide (s.size ≤ q) = false := decide_eq_false hend
      have q1 : (0 ≤ (q : Int)) = True := eq_true (by omega)
      have q2 : ((q : Int) < (s.size : Int)) = True := eq_true (by omega)
      clear hend
      by_cases h34 : u = 34
      · have HO := Aside0.mk (show ot = .val l (q + 1) by
          have := HT1.out
          rw [textF_end _ _ _ _ u hu' h34] at this
          exact (Option.some.inj this).symm)
        subst h34
        have hcv := own_string HS.out.own
        obtain ⟨hbk, hfin⟩ := GotV.mk0 HS.out.bel (Nat.le_refl _) HS.out.res 4 (bs l) ((q : Int) + 1) 0 0
        have HBK := Aside0.mk hbk
        have HFIN := Aside0.mk hfin
        clear hbk hfin hu hu'
        go_wp2
        refine bodyPost_ret (results_cell_row rfl _ _ W.heap.size 53 _ (0, 0) _ rfl HBK.out Tryd.underlying53 rfl (by kernel_rfl)) rfl ?_
        rw [HO.out]
        show GotV _ _ _ (bsJ l) _ _ _ _ _ _
        rw [← cast1 q]
        exact HFIN.out
      have b34 : ((u.toNat : Int) == 34) = false := beq_eq_false_iff_ne.mpr (fun hh => h34 ((u8_eq u 34).2 hh))
      by_cases h32 : u.toNat < 32
      · have HO := Aside0.mk (show ot = .err 41 q by
          have := HT1.out
          rw [textF_low _ _ _ _ u hu' h32] at this
          exact (Option.some.inj this).symm)
        have c1 : decide ((u.toNat : Int) < 32) = true := decide_eq_true (by omega)
        have c2 : decide (u.toNat < 32) = true := decide_eq_true h32
        clear h34 h32 hu hu'
        go_wp2_with (go_at_call 45; (with_reducible refine (rbad_calls _ _ _).mono ?_); intro e w9 hv; obtain ⟨A7, c7, A8, c8, rfl, hb1, hbk, hfin⟩ := GotV.put HS.out.bel (Nat.le_refl _) HS.out.res hv; have HBK := Aside0.mk hbk; have HFIN := Aside0.mk hfin; obtain ⟨z0, z1, z2, z3, z4, z5, z6⟩ := got_cells hb1; obtain ⟨g0, g1, g2, g3, g4, g5, g6⟩ := got_thaw hb1; clear hv hb1 hbk hfin)
        refine bodyPost_ret (results_cell_row rfl _ _ W.heap.size 53 _ (0, 0) _ rfl HBK.out Tryd.underlying53 rfl (by kernel_rfl)) rfl ?_
        rw [HO.out]
        exact ⟨by decide, HFIN.out⟩
      have c1 : decide ((u.toNat : Int) < 32) = false := decide_eq_false (by omega)
      have c2 : decide (u.toNat < 32) = false := decide_eq_false h32
      by_cases h92 : u = 92
      · subst h92
        have HT2 := Aside0.mk (HT1.out.symm.trans (textF_esc _ g l q 92 hu' rfl))
        cases hesc : escF s.data.toList q with
        | err er pp =>
          have HO := Aside0.mk (show ot = .err er pp by have := HT2.out; rw [hesc] at this; exact Option.some.inj this)
          have HESC := Aside0.mk hesc
          clear h34 h32 hu hu' hesc
          go_wp2_with (first | (go_at_call 73; (with_reducible refine (resc_calls s q _ hs2 HQ.out).mono ?_); intro e w1 hv; rw [HESC.out] at hv; obtain ⟨hne, rfl, hbl⟩ := hv; have HS1 := Aside0.mk (HS.out.below hbl); have HNE := Aside0.mk hne; have e1 : ((er : Int) != 0) = true := bne_iff_ne.mpr (nz_int hne); clear hne hbl) | (go_at_call 45; (with_reducible refine (rbad_calls _ _ _).mono ?_); intro e w9 hv; obtain ⟨A7, c7, A8, c8, rfl, hb1, hbk, hfin⟩ := GotV.put HS1.out.bel (Nat.le_refl _) HS1.out.res hv; have HBK := Aside0.mk hbk; have HFIN := Aside0.mk hfin; obtain ⟨z0, z1, z2, z3, z4, z5, z6⟩ := got_cells hb1; obtain ⟨g0, g1, g2, g3, g4, g5, g6⟩ := got_thaw hb1; clear hv hb1 hbk hfin))
          refine bodyPost_ret (results_cell_row rfl _ _ W.heap.size 53 _ (0, 0) _ rfl HBK.out Tryd.underlying53 rfl (by kernel_rfl)) rfl ?_
          rw [HO.out]
          exact ⟨HNE.out, HFIN.out⟩
        | val r q3 =>
          have HT3 := Aside0.mk (show textF s.data.toList g (l ++ encodeRune (r : Int)) q3 = some ot by have := HT2.out; rw [hesc] at this; exact this.symm)
          have hv := escF_val _ _ _ _ hesc
          rw [size_data] at hv
          have hel := encR_le r
          have HESC := Aside0.mk hesc
          have HLEN := Aside0.mk (show l.length + (encodeRune (r : Int)).length ≤ 140737488355328 by omega)
          have HL5 := Aside0.mk (show (l ++ encodeRune (r : Int)).length ≤ 4 * q3 by rw [List.length_append]; omega)
          have HQ3 := Aside0.mk (show q3 ≤ s.size + 1 by omega)
          clear h34 h32 hu hu' hesc hv hel
          go_wp2_with (first | (go_at_call 73; (with_reducible refine (resc_calls s q _ hs2 HQ.out).mono ?_); intro e w1 hv; rw [HESC.out] at hv; obtain ⟨gg, rfl, hbk, hgg, hbl⟩ := hv; have HS1 := Aside0.mk (HS.out.below hbl); have HBG := Aside0.mk hbk; clear hbk hgg hbl) | (at_builtin; refine Own.row (B := W.heap.size + 1) rfl (.tmp 78) (.tmp 79) 58 rfl Tryd.underlying58 info5 _ l (encodeRune r) gg rfl rfl HBG.out HS1.out.own HLEN.out ?_; intro v1 w5 ho hgr hat; obtain ⟨A', n', c', rfl⟩ : ∃ A n c, v1 = Value.slice A n c := (by obtain ⟨A, c, h⟩ := ho.slice; exact ⟨_, _, _, h⟩); have HS5 := Aside0.mk (HS1.out.grown ho hgr); clear ho hgr hat))
          go_roundg (g + 1)
          case measure => omega
          case rel => exact ⟨_, A', n', c', q3, rfl, rfl, HQ3.out, HL5.out, by omega, HS5, HT3⟩
      have b92 : ((u.toNat : Int) == 92) = false := beq_eq_false_iff_ne.mpr (fun hh => h92 ((u8_eq u 92).2 hh))
      rcases char_small (s.data.toList.drop q) with hch | hch | ⟨m, hch, hm1, hm4⟩
      · have HO := Aside0.mk (show ot = .err 3 s.size by
          rcases textF_charbad (k := g) (out := l) hu' hu (by omega) with (⟨_, h2⟩ | ⟨h2, _⟩) | h2
          · have := HT1.out; rw [h2, size_data] at this; exact (Option.some.inj this).symm
          · omega
          · rw [char_ascii hu h2] at hch; omega)
        have HCH := Aside0.mk hch
        clear h34 h32 h92 hu hu' hch
        go_wp2_with (first | (go_at_call 60; (with_reducible refine (char_calls s q _ hs HQ.out).mono ?_); rintro e w1 ⟨rfl, rfl⟩; rw [HCH.out]) | (go_at_call 45; (with_reducible refine (rbad_calls _ _ _).mono ?_); intro e w9 hv; obtain ⟨A7, c7, A8, c8, rfl, hb1, hbk, hfin⟩ := GotV.put HS.out.bel (Nat.le_refl _) HS.out.res hv; have HBK := Aside0.mk hbk; have HFIN := Aside0.mk hfin; obtain ⟨z0, z1, z2, z3, z4, z5, z6⟩ := got_cells hb1; obtain ⟨g0, g1, g2, g3, g4, g5, g6⟩ := got_thaw hb1; clear hv hb1 hbk hfin))
        refine bodyPost_ret (results_cell_row rfl _ _ W.heap.size 53 _ (0, 0) _ rfl HBK.out Tryd.underlying53 rfl (by kernel_rfl)) rfl ?_
        rw [HO.out]
        exact ⟨by decide, HFIN.out⟩
      · have HO := Aside0.mk (show ot = .err 43 q by
          rcases textF_charbad (k := g) (out := l) hu' hu (by omega) with (⟨h2, _⟩ | ⟨_, h2⟩) | h2
          · omega
          · have := HT1.out; rw [h2] at this; exact (Option.some.inj this).symm
          · rw [char_ascii hu h2] at hch; omega)
        have HCH := Aside0.mk hch
        clear h34 h32 h92 hu hu' hch
        go_wp2_with (first | (go_at_call 60; (with_reducible refine (char_calls s q _ hs HQ.out).mono ?_); rintro e w1 ⟨rfl, rfl⟩; rw [HCH.out]) | (go_at_call 45; (with_reducible refine (rbad_calls _ _ _).mono ?_); intro e w9 hv; obtain ⟨A7, c7, A8, c8, rfl, hb1, hbk, hfin⟩ := GotV.put HS.out.bel (Nat.le_refl _) HS.out.res hv; have HBK := Aside0.mk hbk; have HFIN := Aside0.mk hfin; obtain ⟨z0, z1, z2, z3, z4, z5, z6⟩ := got_cells hb1; obtain ⟨g0, g1, g2, g3, g4, g5, g6⟩ := got_thaw hb1; clear hv hb1 hbk hfin))
        refine bodyPost_ret (results_cell_row rfl _ _ W.heap.size 53 _ (0, 0) _ rfl HBK.out Tryd.underlying53 rfl (by kernel_rfl)) rfl ?_
        rw [HO.out]
        exact ⟨by decide, HFIN.out⟩
      · obtain ⟨hstep, hml⟩ := textF_char (k := g) (out := l) hu' h34 h32 h92 hu hch hm1
        rw [List.length_drop, size_data] at hml
        have HT3 := Aside0.mk (show textF s.data.toList g (l ++ (s.data.toList.drop q).take m) (q + m) = some ot by rw [← hstep]; exact HT1.out)
        obtain ⟨qn, hqn⟩ : ∃ qn, q + m = qn := ⟨_, rfl⟩
        have HT4 := Aside0.mk (show textF s.data.toList g (l ++ (s.extract q qn).data.toList) qn = some ot by rw [ext_bytes s q m qn hqn, ← hqn]; exact HT3.out)
        have hsl : (s.extract q qn).data.toList.length = m := by rw [ext_bytes s q m qn hqn, List.length_take, List.length_drop, size_data]; omega
        have hsl2 : (s.extract q qn).size = m := by rw [← hsl, size_data]
        have HLEN := Aside0.mk (show l.length + (s.extract q qn).size ≤ 140737488355328 by omega)
        have HL5 := Aside0.mk (show (l ++ (s.extract q qn).data.toList).length ≤ 4 * qn by rw [List.length_append]; omega)
        have HQ3 := Aside0.mk (show qn ≤ s.size + 1 by omega)
        have HCH := Aside0.mk hch
        have n1 : decide ((m : Int) < 0) = false := decide_eq_false (by omega)
        have n2 : ((m : Int) == 0) = false := beq_eq_false_iff_ne.mpr (by omega)
        have n3 : (m == 0) = false := beq_eq_false_iff_ne.mpr (by omega)
        have w3m : (q : Int) + (m : Int) = (qn : Int) := by omega
        have k1 : ((q : Int) ≤ (qn : Int)) = True := eq_true (by omega)
        have k2 : ((qn : Int) ≤ (s.size : Int)) = True := eq_true (by omega)
        have k3 : (q ≤ qn) = True := eq_true (by omega)
        have k4 : (qn ≤ s.size) = True := eq_true (by omega)
        clear h34 h32 h92 hu hu' hch hsl hsl2 hqn hstep
        go_wp2_with (first | (go_at_call 60; (with_reducible refine (char_calls s q _ hs HQ.out).mono ?_); rintro e w1 ⟨rfl, rfl⟩; rw [HCH.out]) | (at_builtin; refine Own.str (B := W.heap.size + 1) rfl (.tmp 37) (.tmp 43) 58 9 rfl Tryd.underlying58 Tryd.underlying9 info5 _ l (s.extract q qn) rfl rfl HS.out.own HLEN.out ?_; intro v1 w5 ho hgr hat; obtain ⟨A', n', c', rfl⟩ : ∃ A n c, v1 = Value.slice A n c := (by obtain ⟨A, c, h⟩ := ho.slice; exact ⟨_, _, _, h⟩); have HS5 := Aside0.mk (HS.out.grown ho hgr); clear ho hgr hat))
        clear w3m
        go_roundg (g + 1)
        case measure => omega
        case rel => exact ⟨_, A', n', c', qn, rfl, rfl, HQ3.out, HL5.out, by omega, HS5, HT4⟩
end Go.Proofs.YtaalajhmfdcalaaDoor.X
namespace Go.Proofs.YtaalajhmfdcalaaDoor.X
open Go.RowKit Go.Lib Go.Proofs.YtaalajhmfdcalaaDoorW.PrintWords Go.Proofs.YtaalajhmfdcalaaDoorW.PrintLast Go.Proofs.YtaalajhmfdcalaaDoorW.PrintMore
abbrev setQ4 (W : World) (g : Nat) (c0 c1 c2 c3 : Value) : World := (((W.setCell ⟨g, 0, none⟩ c0).setCell ⟨g, 1, none⟩ c1).setCell ⟨g, 2, none⟩ c2).setCell ⟨g, 3, none⟩ c3
theorem blk_setQ4 {W : World} {g : Nat} {o0 o1 o2 o3 : Value} (h : W.heap[g]? = some (.cells #[o0, o1, o2, o3] 25 (0, 0))) (c0 c1 c2 c3 : Value) : (setQ4 W g c0 c1 c2 c3).heap[g]? = some (.cells #[c0, c1, c2, c3] 25 (0, 0)) := by
  have h0 := blk_put h 0 c0 (cs' := #[c0, o1, o2, o3]) rfl
  have h1 := blk_put h0 1 c1 (cs' := #[c0, c1, o2, o3]) rfl
  have h2 := blk_put h1 2 c2 (cs' := #[c0, c1, c2, o3]) rfl
  exact blk_put h2 3 c3 rfl
theorem R_setQ4 {α : Type} {d : Kd α} {e base g : Nat} {w : World} {ok : Nat → Prop} {v : Value} {xs : List α} (h : d.R e w base ok v xs) (hok : ∀ k, ok k → k ≠ g) (c0 c1 c2 c3 : Value) : d.R e (setQ4 w g c0 c1 c2 c3) base ok v xs :=
  Kd.R_far (Kd.R_far (Kd.R_far (Kd.R_far h hok _) hok _) hok _) hok _
theorem below_setQ4 {W w : World} {g : Nat} (h : Below W.heap.size W w) (hg : W.heap.size ≤ g) (c0 c1 c2 c3 : Value) : Below W.heap.size W (setQ4 w g c0 c1 c2 c3) := below_set (below_set (below_set (below_set h hg) hg) hg) hg
theorem rparse_results (B : Nat) (tmps : Array Value) (w : World) (z0 z1 z2 z3 : Value) (e a : Value) (t2 : tmps.getD 2 undef = .pointer (some ⟨B, 0, none⟩)) (t3 : tmps.getD 3 undef = e) (t4 : tmps.getD 4 undef = a)
    (h0 : w.heap[B]? = some (.cells #[z0, z1, z2, z3] 25 (0, 0))) : (results Tryd.f12 tmps).run Tryd.prog w = .ok (.tuple #[.agg #[z0, z1, z2, z3], e, a]) w := by
  have d0 : w.cell? ⟨B, 0, none⟩ = some z0 := (blk_cell h0 0).trans rfl
  have d1 : w.cell? ⟨B, 1, none⟩ = some z1 := (blk_cell h0 1).trans rfl
  have d2 : w.cell? ⟨B, 2, none⟩ = some z2 := (blk_cell h0 2).trans rfl
  have d3 : w.cell? ⟨B, 3, none⟩ = some z3 := (blk_cell h0 3).trans rfl
  have t2' : tmps[2]?.getD undef = .pointer (some ⟨B, 0, none⟩) := by simpa using t2
  have t3' : tmps[3]?.getD undef = e := by simpa using t3
  have t4' : tmps[4]?.getD undef = a := by simpa using t4
  unfold results
  rw [Tryd.results12]
  simp [t2', t3', t4', asAddr, go_sem, d0, d1, d2, d3]
theorem parse_fin {W w1 : World} {k : Int} {t : ByteArray} {l2 : List ByteArray} {l3 : List J} {A2 A3 : Option Addr} {c2 c3 : Nat} {B2 B3 : Nat} (hb : w1.heap[W.heap.size]? = some (.cells #[.int .i64 0, .string (⟨#[]⟩ : ByteArray), .slice none 0 0, .slice none 0 0] 25 (0, 0)))
    (hbel : Below W.heap.size W w1) (h2 : Kd.string.R 9 w1 B2 (fun _ => True) (.slice A2 l2.length c2) l2) (h3 : k25.R 25 w1 B3 (fun k => some k ≠ (Value.slice A2 l2.length c2).ownBlock) (.slice A3 l3.length c3) l3) (hB2 : W.heap.size < B2) (hB3 : W.heap.size < B3) :
    (setQ4 w1 W.heap.size (.int .i64 k) (.string t) (.slice A2 l2.length c2) (.slice A3 l3.length c3)).heap[W.heap.size]? = some (.cells #[.int .i64 k, .string t, .slice A2 l2.length c2, .slice A3 l3.length c3] 25 (0, 0)) ∧
      Kd.string.R 9 (setQ4 w1 W.heap.size (.int .i64 k) (.string t) (.slice A2 l2.length c2) (.slice A3 l3.length c3)) W.heap.size (fun _ => True) (.slice A2 l2.length c2) l2 ∧
      k25.R 25 (setQ4 w1 W.heap.size (.int .i64 k) (.string t) (.slice A2 l2.length c2) (.slice A3 l3.length c3)) W.heap.size (fun k => some k ≠ (Value.slice A2 l2.length c2).ownBlock) (.slice A3 l3.length c3) l3 ∧
      Below W.heap.size W (setQ4 w1 W.heap.size (.int .i64 k) (.string t) (.slice A2 l2.length c2) (.slice A3 l3.length c3)) := by
  refine ⟨blk_setQ4 hb _ _ _ _, ?_, ?_, below_setQ4 hbel (Nat.le_refl _) _ _ _ _⟩
  · exact Kd.R_mono (R_setQ4 (Kd.R_lower (Kd.R_bound h2) (by omega)) (fun k hk => by have := hk.2.1; omega) _ _ _ _) (fun _ _ => trivial)
  · exact Kd.R_mono (R_setQ4 (Kd.R_lower (Kd.R_bound h3) (by omega)) (fun k hk => by have := hk.2.1; omega) _ _ _ _) (fun _ hk => hk.1)
abbrev ZJ : Obj := .cells #[.int .i64 0, .string (⟨#[]⟩ : ByteArray), .slice none 0 0, .slice none 0 0] 25 (0, 0)
set_option maxRecDepth 1000000 in
set_option maxHeartbeats 16000000 in
theorem rparse_calls (s : ByteArray) (k : Nat) (o : Out J) (ho : parseJ s.data.toList (k + 1) = some o) (hs : s.size ≤ 4611686018427387904) (W : World) :
    Calls Tryd.prog 12 #[.string s] W fun e W' => parseEnd W.heap.size o e W' ∧ Below W.heap.size W W' := by
  unfold parseJ at ho
  rw [size_data] at ho
  by_cases hbig : 16384 < s.size
  · rw [if_pos hbig] at ho
    have HO := Aside0.mk (Option.some.inj ho)
    have d1 : decide ((16384 : Int) < (s.size : Int)) = true := decide_eq_true (by omega)
    have d2 : decide (16384 < s.size) = true := decide_eq_true hbig
    clear ho hbig
    go_enter Tryd.func12, Tryd.ntmps12
    go_wp2
    refine bodyPost_ret (rparse_results W.heap.size _ _ _ _ _ _ _ _ rfl rfl rfl (heap_alloc_new W _)) rfl ?_
    rw [← HO.out]
    exact ⟨⟨_, _, rfl, Kd.R_nil _ _ _ _ _, Kd.R_nil _ _ _ _ _⟩, below_alloc (Below.refl _ _) _⟩
  rw [if_neg hbig] at ho
  have d1 : decide ((16384 : Int) < (s.size : Int)) = false := decide_eq_false (by omega)
  have d2 : decide (16384 < s.size) = false := decide_eq_false hbig
  have hs2 : s.size ≤ 1000000 := by omega
  have hb0 := blanks_le s.data.toList 0 (Nat.zero_le _)
  rw [size_data] at hb0
  have HVAL := Aside0.mk (show VALC s (k + 1) 32 0 from rvalue_ok s k hs hs2 (fun q hq => rstr_calls s (k + 1) q hs hs2 hq) 32 (Nat.le_refl _))
  clear hbig
  cases hv : valueF s.data.toList (k + 1) 32 (blanksF s.data.toList 0) with
  | none => rw [hv] at ho; cases ho
  | some ov =>
    rw [hv] at ho
    have HC := Aside0.mk (HVAL.out _ ov hb0 hv)
    have hvv := fun j q => valueF_val s.data.toList (k + 1) 32 (blanksF s.data.toList 0) q j (by rw [size_data]; exact hb0)
    rw [hv] at hvv
    generalize hbe : blanksF s.data.toList 0 = b0 at *
    have HBE := Aside0.mk (show ∀ w, Calls Tryd.prog 31 #[.string s, .int .i64 0] w fun e W' => e = .returned (.int .i64 (b0 : Nat)) ∧ W' = w from fun w => by have := rblanks_calls s 0 w hs (Nat.zero_le _); rw [hbe] at this; exact this)
    clear hbe hv HVAL
    cases ov with
    | err er pp =>
      have HO := Aside0.mk (show Out.err er pp = o from Option.some.inj ho)
      clear ho hvv
      go_enter Tryd.func12, Tryd.ntmps12
      go_wp2_with (first | (go_at_call 31; (with_reducible refine (HBE.out _).mono ?_); rintro e w5 ⟨rfl, rfl⟩) | (go_at_call 30; ((with_reducible refine (HC.out _).mono ?_); intro e w1 hv; obtain ⟨hne, A2, c2, A3, c3, rfl, hr2, hr3, hbl⟩ := hv; have e1 : ((er : Int) != 0) = true := bne_iff_ne.mpr (nz_int hne); have HZ := Aside0.mk ((hbl.block W.heap.size (by rw [World.size_alloc]; omega)).trans (heap_alloc_new W _)); have HB := Aside0.mk (below_step (below_alloc (Below.refl W.heap.size W) _) hbl); clear hr2 hr3 hbl hne)))
      generalize hw2 : w1.alloc (Obj.cells #[.int .i64 0, .string (⟨#[]⟩ : ByteArray), .slice A2 ([] : List ByteArray).length c2, .slice A3 ([] : List J).length c3, .int .i64 0, .int .i64 (er : Int), .int .i64 (pp : Int)] 53) = w2
      obtain ⟨y0, y1, y2, y3, y4, y5, y6⟩ := got_cells (show w2.heap[w1.heap.size]? = some (.cells #[.int .i64 0, .string (⟨#[]⟩ : ByteArray), .slice A2 ([] : List ByteArray).length c2, .slice A3 ([] : List J).length c3, .int .i64 0, .int .i64 (er : Int), .int .i64 (pp : Int)] 53 (0, 0)) by rw [← hw2]; exact heap_alloc_new w1 _)
      have HZ2 := Aside0.mk (show w2.heap[W.heap.size]? = some ZJ by rw [← hw2]; exact blk_alloc HZ.out _)
      have HB2 := Aside0.mk (show Below W.heap.size W w2 by rw [← hw2]; exact below_alloc HB.out _)
      have z0 : w2.cell? ⟨W.heap.size, 0, none⟩ = some (.int .i64 0) := (blk_cell HZ2.out 0).trans rfl
      have z1 : w2.cell? ⟨W.heap.size, 1, none⟩ = some (.string ⟨#[]⟩) := (blk_cell HZ2.out 1).trans rfl
      have z2 : w2.cell? ⟨W.heap.size, 2, none⟩ = some (.slice none 0 0) := (blk_cell HZ2.out 2).trans rfl
      have z3 : w2.cell? ⟨W.heap.size, 3, none⟩ = some (.slice none 0 0) := (blk_cell HZ2.out 3).trans rfl
      have f0 := blk_frozen HZ2.out 0
      have f1 := blk_frozen HZ2.out 1
      have f2 := blk_frozen HZ2.out 2
      have f3 := blk_frozen HZ2.out 3
      clear hw2
      go_region
      all_goals (try go_wp2)
      all_goals (
        refine bodyPost_ret (rparse_results W.heap.size _ _ _ _ _ _ _ _ rfl rfl rfl (blk_drew (blk_setQ4 HZ2.out _ _ _ _))) rfl ?_
        rw [← HO.out]
        exact ⟨⟨_, _, rfl, Kd.R_nil _ _ _ _ _, Kd.R_nil _ _ _ _ _⟩, below_drew1 (below_setQ4 HB2.out (Nat.le_refl _) _ _ _ _)⟩)
    | val j q1 =>
      obtain ⟨hq0, hq1⟩ := hvv j q1 rfl
      rw [size_data] at hq1
      have hbl := blanks_le s.data.toList q1 (by rw [size_data]; exact hq1)
      rw [size_data] at hbl
      have HQ := Aside0.mk (show q1 ≤ 4611686018427387904 by omega)
      simp only at ho
      clear hvv hq0
      generalize hbq : blanksF s.data.toList q1 = bq at *
      have HBQ := Aside0.mk hbq
      clear hbq
      by_cases htail : bq < s.size
      · rw [if_pos htail] at ho
        have HO := Aside0.mk (Option.some.inj ho)
        have t1 : decide (bq < s.size) = true := decide_eq_true htail
        have t2 : ((bq : Int) < (s.size : Int)) = True := eq_true (by omega)
        clear ho htail
        go_enter Tryd.func12, Tryd.ntmps12
        go_wp2_with (first | (go_at_call 30; (with_reducible refine (HC.out _).mono ?_); intro e w1 hv; obtain ⟨A2, c2, A3, c3, rfl, hr2, hr3, hbl⟩ := hv; have HZ := Aside0.mk ((hbl.block W.heap.size (by rw [World.size_alloc]; omega)).trans (heap_alloc_new W _)); have HB := Aside0.mk (below_step (below_alloc (Below.refl W.heap.size W) _) hbl); have z0 := fun ob => (show (w1.alloc ob).cell? ⟨W.heap.size, 0, none⟩ = some (.int .i64 0) from (blk_cell (blk_alloc HZ.out ob) 0).trans rfl); have z1 := fun ob => (show (w1.alloc ob).cell? ⟨W.heap.size, 1, none⟩ = some (.string ⟨#[]⟩) from (blk_cell (blk_alloc HZ.out ob) 1).trans rfl); have z2 := fun ob => (show (w1.alloc ob).cell? ⟨W.heap.size, 2, none⟩ = some (.slice none 0 0) from (blk_cell (blk_alloc HZ.out ob) 2).trans rfl); have z3 := fun ob => (show (w1.alloc ob).cell? ⟨W.heap.size, 3, none⟩ = some (.slice none 0 0) from (blk_cell (blk_alloc HZ.out ob) 3).trans rfl); have f0 := fun ob => blk_frozen (blk_alloc HZ.out ob) 0; have f1 := fun ob => blk_frozen (blk_alloc HZ.out ob) 1; have f2 := fun ob => blk_frozen (blk_alloc HZ.out ob) 2; have f3 := fun ob => blk_frozen (blk_alloc HZ.out ob) 3; clear hr2 hr3 hbl) | (go_at_call 31; (first | ((with_reducible refine (HBE.out _).mono ?_); rintro e w5 ⟨rfl, rfl⟩) | ((with_reducible refine (rblanks_calls s q1 _ hs HQ.out).mono ?_); rintro e w5 ⟨rfl, rfl⟩; rw [HBQ.out]))))
        refine bodyPost_ret (rparse_results W.heap.size _ _ _ _ _ _ _ _ rfl rfl rfl (blk_setQ4 (blk_alloc HZ.out _) _ _ _ _)) rfl ?_
        rw [← HO.out]
        exact ⟨⟨_, _, rfl, Kd.R_nil _ _ _ _ _, Kd.R_nil _ _ _ _ _⟩, below_setQ4 (below_alloc HB.out _) (Nat.le_refl _) _ _ _ _⟩
      · rw [if_neg htail] at ho
        have HO := Aside0.mk (Option.some.inj ho)
        have t1 : decide (bq < s.size) = false := decide_eq_false htail
        have t2 : ((bq : Int) < (s.size : Int)) = False := eq_false (by omega)
        clear ho htail
        go_enter Tryd.func12, Tryd.ntmps12
        go_wp2_with (first | (go_at_call 30; (with_reducible refine (HC.out _).mono ?_); intro e w1 hv; obtain ⟨A2, c2, A3, c3, rfl, hr2, hr3, hbl⟩ := hv; have HZ := Aside0.mk ((hbl.block W.heap.size (by rw [World.size_alloc]; omega)).trans (heap_alloc_new W _)); have HB := Aside0.mk (below_step (below_alloc (Below.refl W.heap.size W) _) hbl); have HR2 := Aside0.mk hr2; have HR3 := Aside0.mk hr3; have z0 := fun ob => (show (w1.alloc ob).cell? ⟨W.heap.size, 0, none⟩ = some (.int .i64 0) from (blk_cell (blk_alloc HZ.out ob) 0).trans rfl); have z1 := fun ob => (show (w1.alloc ob).cell? ⟨W.heap.size, 1, none⟩ = some (.string ⟨#[]⟩) from (blk_cell (blk_alloc HZ.out ob) 1).trans rfl); have z2 := fun ob => (show (w1.alloc ob).cell? ⟨W.heap.size, 2, none⟩ = some (.slice none 0 0) from (blk_cell (blk_alloc HZ.out ob) 2).trans rfl); have z3 := fun ob => (show (w1.alloc ob).cell? ⟨W.heap.size, 3, none⟩ = some (.slice none 0 0) from (blk_cell (blk_alloc HZ.out ob) 3).trans rfl); have f0 := fun ob => blk_frozen (blk_alloc HZ.out ob) 0; have f1 := fun ob => blk_frozen (blk_alloc HZ.out ob) 1; have f2 := fun ob => blk_frozen (blk_alloc HZ.out ob) 2; have f3 := fun ob => blk_frozen (blk_alloc HZ.out ob) 3; clear hr2 hr3 hbl) | (go_at_call 31; (first | ((with_reducible refine (HBE.out _).mono ?_); rintro e w5 ⟨rfl, rfl⟩) | ((with_reducible refine (rblanks_calls s q1 _ hs HQ.out).mono ?_); rintro e w5 ⟨rfl, rfl⟩; rw [HBQ.out]))))
        refine bodyPost_ret (rparse_results W.heap.size _ _ _ _ _ _ _ _ rfl rfl rfl (parse_fin (blk_alloc HZ.out _) (below_alloc HB.out _) (Kd.R_alloc HR2.out _) (Kd.R_alloc HR3.out _) (by rw [World.size_alloc]; omega) (by rw [World.size_alloc]; omega)).1) rfl ?_
        rw [← HO.out]
        have hfin := parse_fin (k := j.f0) (t := j.f1) (blk_alloc HZ.out (.cells #[.int .i64 j.f0, .string j.f1, .slice A2 j.f2.length c2, .slice A3 j.f3.length c3, .int .i64 (q1 : Int), .int .i64 0, .int .i64 0] 53 (0, 0))) (below_alloc HB.out _) (Kd.R_alloc HR2.out _) (Kd.R_alloc HR3.out _) (by rw [World.size_alloc]; omega) (by rw [World.size_alloc]; omega)
        exact ⟨⟨_, _, rfl, hfin.2.1, hfin.2.2.1⟩, hfin.2.2.2⟩
end Go.Proofs.YtaalajhmfdcalaaDoor.X
namespace Go.Proofs.YtaalajhmfdcalaaDoor.X
open Go.RowKit Go.Lib Go.Proofs.YtaalajhmfdcalaaDoorW.PrintWords Go.Proofs.YtaalajhmfdcalaaDoorW.PrintLast Go.Proofs.YtaalajhmfdcalaaDoorW.PrintMore
def wicketref04_Parse.f (a0 : ByteArray) : Option (Int × ByteArray × List ByteArray × (List (S25)) × Int × Int) :=
  if a0.size ≤ 4611686018427387904 then jtext_Parse.f a0 else none
theorem wicketref04_Parse.calls (a0 : ByteArray) (r1 : Int) (r2 : ByteArray) (r3 : List ByteArray) (r4 : List (S25)) (r5 r6 : Int) (w : World) (hG : GL w) (h : wicketref04_Parse.f a0 = some (r1, r2, r3, r4, r5, r6)) :
    Calls Tryd.prog 12 #[.string a0] w fun e w' => ∃ v2_ v3_ : Value, e = .returned (.tuple #[.agg #[.int .i64 r1, .string r2, v2_, v3_], .int .i64 r5, .int .i64 r6]) ∧ Kd.R Kd.string 9 w' w.heap.size (fun _ => True) v2_ r3 ∧ Kd.R k25 25 w' w.heap.size (fun k_ => some k_ ≠ (v2_ : Value).ownBlock) v3_ r4 ∧ Below w.heap.size w w' := by
  unfold wicketref04_Parse.f at h
  split at h
  case isFalse => cases h
  rename_i hs
  unfold jtext_Parse.f at h
  cases ho : parseJ a0.data.toList (a0.size + 1) with
  | none => rw [ho] at h; cases h
  | some o =>
    rw [ho] at h
    refine (rparse_calls a0 _ o ho hs w).mono ?_
    rintro e w' ⟨he, hb⟩
    cases o with
    | err e1 p =>
      simp only [Option.some.injEq, Prod.mk.injEq] at h
      obtain ⟨rfl, rfl, rfl, rfl, rfl, rfl⟩ := h
      obtain ⟨v2, v3, rfl, h2, h3⟩ := he
      exact ⟨v2, v3, rfl, h2, h3, hb⟩
    | val j q =>
      simp only [Option.some.injEq, Prod.mk.injEq] at h
      obtain ⟨rfl, rfl, rfl, rfl, rfl, rfl⟩ := h
      obtain ⟨v2, v3, rfl, h2, h3⟩ := he
      exact ⟨v2, v3, rfl, h2, h3, hb⟩
end Go.Proofs.YtaalajhmfdcalaaDoor.X
namespace Go.Proofs.YtaalajhmfdcalaaDoor.X
open Go.RowKit Go.Proofs.YtaalajhmfdcalaaDoor.X Go.Proofs.YtaalajhmfdcalaaDoorW.PrintWords Go.Proofs.YtaalajhmfdcalaaDoorW.PrintLast Go.Proofs.YtaalajhmfdcalaaDoorW.PrintMore
attribute [local go_sem] max2_int min2_int max_two min_two max_three min_three max_four min_four   -- for this text's walks alone
set_option linter.unusedVariables false
set_option linter.unusedSimpArgs false
def wicketlaw04_num.f (a0 : Int) : Option (Int) := some a0
set_option maxHeartbeats 8000000 in
set_option maxRecDepth 100000 in
theorem wicketlaw04_num.calls (a0 : Int) (r : Int) (w : World) (h : wicketlaw04_num.f a0 = some r) :
    Calls Tryd.prog 14 #[.int .i64 a0] w fun e w' => e = .returned (.int .i64 r) ∧ Drawn0 w w' := by
  have H : (some a0) = some r := h
  clear h
  obtain rfl := Option.some.inj H
  go_enter Tryd.func14, Tryd.ntmps14
  go_wp2
  go_ret
  exact ⟨by first | rfl | (simp; done) | (simp [*]; done), by repeat (first | exact Drawn0.refl _ | apply Drawn0.step)⟩
def wicketlaw04_live.f  : Option (Bool) := (jtext_Parse.f (⟨#[32, 123, 34, 97, 34, 32, 58, 32, 91, 49, 44, 32, 116, 114, 117, 101, 44, 32, 34, 120, 34, 93, 125, 32]⟩ : ByteArray)).bind fun bt101 => ((jtext_Print.f bt101.1 bt101.2.1 bt101.2.2.1 bt101.2.2.2.1).bind fun bt112 => ((jtext_Parse.f (⟨#[91, 49, 44, 93]⟩ : ByteArray)).bind fun bt114 => ((wicketlaw04_num.f bt101.2.2.2.2.1).bind fun t125 => (if t125 = 0 then ((wicketlaw04_num.f bt112.2).bind fun t126 => (if t126 = 0 then (if bt112.1.toList = ([123, 34, 97, 34, 58, 91, 49, 44, 116, 114, 117, 101, 44, 34, 120, 34, 93, 125] : List UInt8) then ((wicketlaw04_num.f bt114.2.2.2.2.1).bind fun t127 => (if t127 = 40 then (some (bt114.2.2.2.2.2 == 3)) else none)) else none) else none)) else none))))
set_option maxHeartbeats 8000000 in
set_option maxRecDepth 100000 in
theorem wicketlaw04_live.calls  (r : Bool) (w : World) (hG : GL w) (h : wicketlaw04_live.f  = some r) :
    Calls Tryd.prog 13 #[] w fun e w' => e = .returned (.bool r) ∧ Below w.heap.size w w' := by
  have hu25 := Tryd.underlying25
  have HB := Aside0.mk (Below.refl w.heap.size w)
  have HG := Aside0.mk hG
  clear hG
  have H : ((jtext_Parse.f (⟨#[32, 123, 34, 97, 34, 32, 58, 32, 91, 49, 44, 32, 116, 114, 117, 101, 44, 32, 34, 120, 34, 93, 125, 32]⟩ : ByteArray)).bind fun bt101 => ((jtext_Print.f bt101.1 bt101.2.1 bt101.2.2.1 bt101.2.2.2.1).bind fun bt112 => ((jtext_Parse.f (⟨#[91, 49, 44, 93]⟩ : ByteArray)).bind fun bt114 => ((wicketlaw04_num.f bt101.2.2.2.2.1).bind fun t125 => (if t125 = 0 then ((wicketlaw04_num.f bt112.2).bind fun t126 => (if t126 = 0 then (if bt112.1.toList = ([123, 34, 97, 34, 58, 91, 49, 44, 116, 114, 117, 101, 44, 34, 120, 34, 93, 125] : List UInt8) then ((wicketlaw04_num.f bt114.2.2.2.2.1).bind fun t127 => (if t127 = 40 then (some (bt114.2.2.2.2.2 == 3)) else none)) else none) else none)) else none))))) = some r := h
  clear h
  replace H := Option.bind_eq_some_iff.mp H
  obtain ⟨⟨t101, t102, t103, t106, t109, t110⟩, A10, H⟩ := H
  replace H : ((jtext_Print.f t101 t102 t103 t106).bind fun bt112 => ((jtext_Parse.f (⟨#[91, 49, 44, 93]⟩ : ByteArray)).bind fun bt114 => ((wicketlaw04_num.f t109).bind fun t125 => (if t125 = 0 then ((wicketlaw04_num.f bt112.2).bind fun t126 => (if t126 = 0 then (if bt112.1.toList = ([123, 34, 97, 34, 58, 91, 49, 44, 116, 114, 117, 101, 44, 34, 120, 34, 93, 125] : List UInt8) then ((wicketlaw04_num.f bt114.2.2.2.2.1).bind fun t127 => (if t127 = 40 then (some (bt114.2.2.2.2.2 == 3)) else none)) else none) else none)) else none)))) = some r := H
  have A1 := Aside0.mk A10
  clear A10
  replace H := Option.bind_eq_some_iff.mp H
  obtain ⟨⟨t112, t113⟩, A20, H⟩ := H
  replace H : ((jtext_Parse.f (⟨#[91, 49, 44, 93]⟩ : ByteArray)).bind fun bt114 => ((wicketlaw04_num.f t109).bind fun t125 => (if t125 = 0 then ((wicketlaw04_num.f t113).bind fun t126 => (if t126 = 0 then (if t112.toList = ([123, 34, 97, 34, 58, 91, 49, 44, 116, 114, 117, 101, 44, 34, 120, 34, 93, 125] : List UInt8) then ((wicketlaw04_num.f bt114.2.2.2.2.1).bind fun t127 => (if t127 = 40 then (some (bt114.2.2.2.2.2 == 3)) else none)) else none) else none)) else none))) = some r := H
  have A2 := Aside0.mk A20
  clear A20
  replace H := Option.bind_eq_some_iff.mp H
  obtain ⟨⟨t114, t115, t116, t119, t122, t123⟩, A30, H⟩ := H
  replace H : ((wicketlaw04_num.f t109).bind fun t125 => (if t125 = 0 then ((wicketlaw04_num.f t113).bind fun t126 => (if t126 = 0 then (if t112.toList = ([123, 34, 97, 34, 58, 91, 49, 44, 116, 114, 117, 101, 44, 34, 120, 34, 93, 125] : List UInt8) then ((wicketlaw04_num.f t122).bind fun t127 => (if t127 = 40 then (some (t123 == 3)) else none)) else none) else none)) else none)) = some r := H
  have A3 := Aside0.mk A30
  clear A30
  replace H := Option.bind_eq_some_iff.mp H
  obtain ⟨t125, A40, H⟩ := H
  obtain rfl : t109 = t125 := Option.some.inj A40
  replace H : (if t109 = 0 then ((wicketlaw04_num.f t113).bind fun t126 => (if t126 = 0 then (if t112.toList = ([123, 34, 97, 34, 58, 91, 49, 44, 116, 114, 117, 101, 44, 34, 120, 34, 93, 125] : List UInt8) then ((wicketlaw04_num.f t122).bind fun t127 => (if t127 = 40 then (some (t123 == 3)) else none)) else none) else none)) else none) = some r := H
  have A4 := Aside0.mk A40
  clear A40
  by_cases c5 : t109 = 0
  · rw [if_pos c5] at H
    have c5b0 : (t109 == 0) = true := beq_iff_eq.mpr c5
    have c5b1 : (t109 != 0) = false := bne_eq_false_iff_eq.mpr c5
    clear c5
    replace H := Option.bind_eq_some_iff.mp H
    obtain ⟨t126, A60, H⟩ := H
    obtain rfl : t113 = t126 := Option.some.inj A60
    replace H : (if t113 = 0 then (if t112.toList = ([123, 34, 97, 34, 58, 91, 49, 44, 116, 114, 117, 101, 44, 34, 120, 34, 93, 125] : List UInt8) then ((wicketlaw04_num.f t122).bind fun t127 => (if t127 = 40 then (some (t123 == 3)) else none)) else none) else none) = some r := H
    have A6 := Aside0.mk A60
    clear A60
    by_cases c7 : t113 = 0
    · rw [if_pos c7] at H
      have c7b0 : (t113 == 0) = true := beq_iff_eq.mpr c7
      have c7b1 : (t113 != 0) = false := bne_eq_false_iff_eq.mpr c7
      clear c7
      by_cases c8 : t112.toList = ([123, 34, 97, 34, 58, 91, 49, 44, 116, 114, 117, 101, 44, 34, 120, 34, 93, 125] : List UInt8)
      · rw [if_pos c8] at H
        have c8b0 : (t112.toList == ([123, 34, 97, 34, 58, 91, 49, 44, 116, 114, 117, 101, 44, 34, 120, 34, 93, 125] : List UInt8)) = true := beq_iff_eq.mpr c8
        have c8b1 : (t112.toList != ([123, 34, 97, 34, 58, 91, 49, 44, 116, 114, 117, 101, 44, 34, 120, 34, 93, 125] : List UInt8)) = false := bne_eq_false_iff_eq.mpr c8
        clear c8
        replace H := Option.bind_eq_some_iff.mp H
        obtain ⟨t127, A90, H⟩ := H
        obtain rfl : t122 = t127 := Option.some.inj A90
        replace H : (if t122 = 40 then (some (t123 == 3)) else none) = some r := H
        have A9 := Aside0.mk A90
        clear A90
        by_cases c10 : t122 = 40
        · rw [if_pos c10] at H
          have c10b0 : (t122 == 40) = true := beq_iff_eq.mpr c10
          have c10b1 : (t122 != 40) = false := bne_eq_false_iff_eq.mpr c10
          clear c10
          obtain rfl := Option.some.inj H
          go_enter Tryd.func13, Tryd.ntmps13
          go_wp2_with (first | ((with_reducible refine gate_callee (f := 11) rfl ?_); refine goesL_ (some 10) rfl rfl Tryd.func11 (by kernel_rfl) rfl #[.string (⟨#[32, 123, 34, 97, 34, 32, 58, 32, 91, 49, 44, 32, 116, 114, 117, 101, 44, 32, 34, 120, 34, 93, 125, 32]⟩ : ByteArray)] rfl (by (try simp only [List.map_toArray, List.map_cons, List.map_nil]); first | done | rfl | (simp only [List.length_drop, List.length_take]; rfl)) ?_; (with_reducible refine (jtext_Parse.calls (⟨#[32, 123, 34, 97, 34, 32, 58, 32, 91, 49, 44, 32, 116, 114, 117, 101, 44, 32, 34, 120, 34, 93, 125, 32]⟩ : ByteArray) t101 t102 t103 t106 t109 t110 _ ?side1 A1.out).mono ?_); (case side1 => exact GL_below HG.out (by repeat (first | (with_reducible first | exact HB.out | apply below_alloc | apply pw_below_drewN | apply below_drew1) | exact HB.out))); rintro e w11 ⟨v104, v107, rfl, ho0, ho1, hb⟩; refine ⟨_, rfl, ?_⟩; have n0_ := Aside0.mk (Kd.R_lower ho0 (below_size (by repeat (first | (with_reducible first | exact HB.out | apply below_alloc | apply pw_below_drewN | apply below_drew1) | exact HB.out)))); have n1_ := Aside0.mk (Kd.R_lower ho1 (below_size (by repeat (first | (with_reducible first | exact HB.out | apply below_alloc | apply pw_below_drewN | apply below_drew1) | exact HB.out)))); have n2_ := Aside0.mk (below_step (by repeat (first | (with_reducible first | exact HB.out | apply below_alloc | apply pw_below_drewN | apply below_drew1) | exact HB.out)) hb); clear HB; have HO105 := n0_; have HO108 := n1_; have HB := n2_; clear n0_ n1_ n2_; (try clear hb); (try clear hb2); (try clear hk); (try clear hi); (try clear ho0); (try clear ho1)) | ((with_reducible refine gate_dst (N := 1) rfl ?_); refine box_event ?hg (N := 1) ?hd (cs := #[.int .i64 0, .string (⟨#[]⟩ : ByteArray), .slice none 0 0, .slice none 0 0]) (t := 25) ?hr ?_; (case hd => rfl); (case hg => rfl); (case hr => first | (go_simp; done) | (go_simp; rfl)); intro gb111 hg w12 hbox hb; have n0_ := Aside0.mk (Kd.R_below (by (with_reducible repeat (first | apply Kd.R_alloc | apply Kd.R_drewN | apply Kd.R_drew)); exact HO105.out) hb); have n1_ := Aside0.mk (Kd.R_below (Kd.R_elderB (by (with_reducible repeat (first | apply Kd.R_alloc | apply Kd.R_drewN | apply Kd.R_drew)); exact HO108.out) gb111 (Nat.le_of_eq hg.symm)) hb); have n2_ := Aside0.mk (below_step (by repeat (first | (with_reducible first | exact HB.out | apply below_alloc | apply pw_below_drewN | apply below_drew1) | exact HB.out)) hb); have n3_ := Aside0.mk (hbox); have n4_ := Aside0.mk ((by rw [hg]; exact (below_size (by repeat (first | (with_reducible first | exact HB.out | apply below_alloc | apply pw_below_drewN | apply below_drew1) | exact HB.out))) : w.heap.size ≤ gb111)); have n5_ := Aside0.mk ((by rw [hg]; exact (below_size (by repeat (first | (with_reducible first | exact HB.out | apply below_alloc | apply pw_below_drewN | apply below_drew1) | exact HB.out))) : w.heap.size ≤ gb111)); clear HO105; clear HO108; clear HB; have HO105 := n0_; have HO108 := n1_; have HB := n2_; have BK111 := n3_; have GW111 := n4_; have GE111 := n5_; clear n0_ n1_ n2_ n3_ n4_ n5_; clear hb hbox hg; have hcz13_0 : w12.cell? ⟨gb111, 0, none⟩ = some (.int .i64 0) := (blk_cell BK111.out 0).trans rfl; have hcz13_1 : w12.cell? ⟨gb111, 1, none⟩ = some (.string (⟨#[]⟩ : ByteArray)) := (blk_cell BK111.out 1).trans rfl; have hcz13_2 : w12.cell? ⟨gb111, 2, none⟩ = some (.slice none 0 0) := (blk_cell BK111.out 2).trans rfl; have hcz13_3 : w12.cell? ⟨gb111, 3, none⟩ = some (.slice none 0 0) := (blk_cell BK111.out 3).trans rfl; have hfz13_0 := blk_frozen BK111.out 0; have hfz13_1 := blk_frozen BK111.out 1; have hfz13_2 := blk_frozen BK111.out 2; have hfz13_3 := blk_frozen BK111.out 3; obtain ⟨Ao14, co14, eo14⟩ := Kd.R_slice HO105.out; subst eo14; obtain ⟨Ao15, co15, eo15⟩ := Kd.R_slice HO108.out; subst eo15) | ((with_reducible refine gate_callee (f := 17) rfl ?_); refine goesL_ (some 16) rfl rfl Tryd.func17 (by kernel_rfl) rfl #[.agg #[.int .i64 t101, .string t102, .slice Ao14 t103.length co14, .slice Ao15 t106.length co15]] rfl (by (try simp only [List.map_toArray, List.map_cons, List.map_nil]); first | done | rfl | (simp only [List.length_drop, List.length_take]; rfl)) ?_; (with_reducible refine (jtext_Print.calls t101 t102 _ _ t103 _ _ t106 t112 t113 _ ?side1 ?side2 ?side3 ?side4 ?side5 A2.out).mono ?_); (case side1 => refine (Kd.R_reads' (e := 9) (base := w.heap.size) (ok := fun k_ => True) (n := t103.length) (c := co14) ?_).2.2; exact (by (with_reducible repeat (first | apply Kd.R_alloc | apply Kd.R_drewN | apply Kd.R_drew)); exact (Kd.R_mono (Kd.R_far (p := ⟨gb111, 3, none⟩) (Kd.R_far (p := ⟨gb111, 2, none⟩) (Kd.R_far (p := ⟨gb111, 1, none⟩) (Kd.R_far (p := ⟨gb111, 0, none⟩) (Kd.R_types HO105.out BK111.out (by decide)) (fun _ hk => hk.2) (.int .i64 t101)) (fun _ hk => hk.2) (.string t102)) (fun _ hk => hk.2) (.slice Ao14 t103.length co14)) (fun _ hk => hk.2) (.slice Ao15 t106.length co15)) (fun _ h_ => h_.1)))); (case side2 => exact (Kd.R_reads' HO105.out).2.1); (case side3 => refine (Kd.R_reads' (e := 25) (base := w.heap.size) (ok := fun k_ => (some k_ ≠ (.slice Ao14 t103.length co14 : Value).ownBlock ∧ k_ ≠ gb111)) (n := t106.length) (c := co15) ?_).2.2; exact (by (with_reducible repeat (first | apply Kd.R_alloc | apply Kd.R_drewN | apply Kd.R_drew)); exact (Kd.R_mono (Kd.R_far (p := ⟨gb111, 3, none⟩) (Kd.R_far (p := ⟨gb111, 2, none⟩) (Kd.R_far (p := ⟨gb111, 1, none⟩) (Kd.R_far (p := ⟨gb111, 0, none⟩) (Kd.R_mono HO108.out (fun k_ hk => (⟨hk, hk.2⟩ : _ ∧ k_ ≠ gb111))) (fun _ hk => hk.2) (.int .i64 t101)) (fun _ hk => hk.2) (.string t102)) (fun _ hk => hk.2) (.slice Ao14 t103.length co14)) (fun _ hk => hk.2) (.slice Ao15 t106.length co15)) (fun _ h_ => h_.1)))); (case side4 => exact (Kd.R_reads' HO108.out).2.1); (case side5 => exact GL_below HG.out (by repeat (first | (with_reducible first | exact HB.out | apply below_alloc | apply pw_below_drewN | apply below_drew1 | refine below_set ?_ GE111.out) | exact HB.out))); rintro e w16 ⟨rfl, hb⟩; refine ⟨_, rfl, ?_⟩; have n0_ := Aside0.mk (Kd.R_below (by (with_reducible repeat (first | apply Kd.R_alloc | apply Kd.R_drewN | apply Kd.R_drew)); exact (Kd.R_mono (Kd.R_far (p := ⟨gb111, 3, none⟩) (Kd.R_far (p := ⟨gb111, 2, none⟩) (Kd.R_far (p := ⟨gb111, 1, none⟩) (Kd.R_far (p := ⟨gb111, 0, none⟩) (Kd.R_types HO105.out BK111.out (by decide)) (fun _ hk => hk.2) (.int .i64 t101)) (fun _ hk => hk.2) (.string t102)) (fun _ hk => hk.2) (.slice Ao14 t103.length co14)) (fun _ hk => hk.2) (.slice Ao15 t106.length co15)) (fun _ h_ => h_.1))) hb); have n1_ := Aside0.mk (Kd.R_below (by (with_reducible repeat (first | apply Kd.R_alloc | apply Kd.R_drewN | apply Kd.R_drew)); exact (Kd.R_mono (Kd.R_far (p := ⟨gb111, 3, none⟩) (Kd.R_far (p := ⟨gb111, 2, none⟩) (Kd.R_far (p := ⟨gb111, 1, none⟩) (Kd.R_far (p := ⟨gb111, 0, none⟩) (Kd.R_mono HO108.out (fun k_ hk => (⟨hk, hk.2⟩ : _ ∧ k_ ≠ gb111))) (fun _ hk => hk.2) (.int .i64 t101)) (fun _ hk => hk.2) (.string t102)) (fun _ hk => hk.2) (.slice Ao14 t103.length co14)) (fun _ hk => hk.2) (.slice Ao15 t106.length co15)) (fun _ h_ => h_.1))) hb); have n2_ := Aside0.mk (blk_below (g := gb111) (o := .cells #[.int .i64 t101, .string t102, .slice Ao14 t103.length co14, .slice Ao15 t106.length co15] 25 (0, 0)) (by (with_reducible repeat (first | refine blk_drewN ?_ _ | refine blk_drew ?_ | refine blk_alloc ?_ _)); refine blk_put (cs := #[.int .i64 t101, .string t102, .slice Ao14 t103.length co14, .slice none 0 0]) ?_ 3 _ rfl; (with_reducible repeat (first | refine blk_drewN ?_ _ | refine blk_drew ?_ | refine blk_alloc ?_ _)); refine blk_put (cs := #[.int .i64 t101, .string t102, .slice none 0 0, .slice none 0 0]) ?_ 2 _ rfl; (with_reducible repeat (first | refine blk_drewN ?_ _ | refine blk_drew ?_ | refine blk_alloc ?_ _)); refine blk_put (cs := #[.int .i64 t101, .string (⟨#[]⟩ : ByteArray), .slice none 0 0, .slice none 0 0]) ?_ 1 _ rfl; (with_reducible repeat (first | refine blk_drewN ?_ _ | refine blk_drew ?_ | refine blk_alloc ?_ _)); refine blk_put (cs := #[.int .i64 0, .string (⟨#[]⟩ : ByteArray), .slice none 0 0, .slice none 0 0]) ?_ 0 _ rfl; (with_reducible repeat (first | refine blk_drewN ?_ _ | refine blk_drew ?_ | refine blk_alloc ?_ _)); exact BK111.out) hb); have n3_ := Aside0.mk (below_step (by repeat (first | (with_reducible first | exact HB.out | apply below_alloc | apply pw_below_drewN | apply below_drew1 | refine below_set ?_ GE111.out) | exact HB.out)) hb); clear HO105; clear HO108; clear BK111; clear HB; have HO105 := n0_; have HO108 := n1_; have BK111 := n2_; have HB := n3_; clear n0_ n1_ n2_ n3_; (try clear hb); (try clear hb2); (try clear hk); (try clear hi)) | ((with_reducible refine gate_callee (f := 11) rfl ?_); refine goesL_ (some 20) rfl rfl Tryd.func11 (by kernel_rfl) rfl #[.string (⟨#[91, 49, 44, 93]⟩ : ByteArray)] rfl (by (try simp only [List.map_toArray, List.map_cons, List.map_nil]); first | done | rfl | (simp only [List.length_drop, List.length_take]; rfl)) ?_; (with_reducible refine (jtext_Parse.calls (⟨#[91, 49, 44, 93]⟩ : ByteArray) t114 t115 t116 t119 t122 t123 _ ?side1 A3.out).mono ?_); (case side1 => exact GL_below HG.out (by repeat (first | (with_reducible first | exact HB.out | apply below_alloc | apply pw_below_drewN | apply below_drew1 | refine below_set ?_ GE111.out) | exact HB.out))); rintro e w17 ⟨v117, v120, rfl, ho0, ho1, hb⟩; refine ⟨_, rfl, ?_⟩; have n0_ := Aside0.mk (Kd.R_elder' (by (with_reducible repeat (first | apply Kd.R_alloc | apply Kd.R_drewN | apply Kd.R_drew)); exact HO105.out) (Kd.R_base ho0) hb); have n1_ := Aside0.mk (Kd.R_mono (Kd.R_told (Kd.R_told (Kd.R_old (by (with_reducible repeat (first | apply Kd.R_alloc | apply Kd.R_drewN | apply Kd.R_drew)); exact HO108.out) hb) (Kd.R_base ho0)) (Kd.R_base ho1)) (fun _ h_ => h_.1)); have n2_ := Aside0.mk (Kd.R_lower (Kd.R_new' ho0 (Kd.R_lt (by (with_reducible repeat (first | apply Kd.R_alloc | apply Kd.R_drewN | apply Kd.R_drew)); exact HO105.out))) (below_size (by repeat (first | (with_reducible first | exact HB.out | apply below_alloc | apply pw_below_drewN | apply below_drew1 | refine below_set ?_ GE111.out) | exact HB.out)))); have n3_ := Aside0.mk (Kd.R_lower (Kd.R_newB (Kd.R_new' (Kd.R_new' ho1 (Kd.R_lt (by (with_reducible repeat (first | apply Kd.R_alloc | apply Kd.R_drewN | apply Kd.R_drew)); exact HO105.out))) (Kd.R_lt (by (with_reducible repeat (first | apply Kd.R_alloc | apply Kd.R_drewN | apply Kd.R_drew)); exact HO108.out))) (g := gb111) (o := .cells #[.int .i64 t101, .string t102, .slice Ao14 t103.length co14, .slice Ao15 t106.length co15] 25 (0, 0)) (by (with_reducible repeat (first | refine blk_drewN ?_ _ | refine blk_drew ?_ | refine blk_alloc ?_ _)); exact BK111.out)) (below_size (by repeat (first | (with_reducible first | exact HB.out | apply below_alloc | apply pw_below_drewN | apply below_drew1 | refine below_set ?_ GE111.out) | exact HB.out)))); have n4_ := Aside0.mk (blk_below (g := gb111) (o := .cells #[.int .i64 t101, .string t102, .slice Ao14 t103.length co14, .slice Ao15 t106.length co15] 25 (0, 0)) (by (with_reducible repeat (first | refine blk_drewN ?_ _ | refine blk_drew ?_ | refine blk_alloc ?_ _)); exact BK111.out) hb); have n5_ := Aside0.mk (below_step (by repeat (first | (with_reducible first | exact HB.out | apply below_alloc | apply pw_below_drewN | apply below_drew1 | refine below_set ?_ GE111.out) | exact HB.out)) hb); clear HO105; clear HO108; clear BK111; clear HB; have HO105 := n0_; have HO108 := n1_; have HO118 := n2_; have HO121 := n3_; have BK111 := n4_; have HB := n5_; clear n0_ n1_ n2_ n3_ n4_ n5_; (try clear hb); (try clear hb2); (try clear hk); (try clear hi); (try clear ho0); (try clear ho1)) | ((with_reducible refine gate_dst (N := 6) rfl ?_); refine box_event ?hg (N := 6) ?hd (cs := #[.int .i64 0, .string (⟨#[]⟩ : ByteArray), .slice none 0 0, .slice none 0 0]) (t := 25) ?hr ?_; (case hd => rfl); (case hg => rfl); (case hr => first | (go_simp; done) | (go_simp; rfl)); intro gb124 hg w18 hbox hb; have n0_ := Aside0.mk (Kd.R_below (by (with_reducible repeat (first | apply Kd.R_alloc | apply Kd.R_drewN | apply Kd.R_drew)); exact HO105.out) hb); have n1_ := Aside0.mk (Kd.R_below (Kd.R_elderB (by (with_reducible repeat (first | apply Kd.R_alloc | apply Kd.R_drewN | apply Kd.R_drew)); exact HO108.out) gb124 (Nat.le_of_eq hg.symm)) hb); have n2_ := Aside0.mk (Kd.R_below (by (with_reducible repeat (first | apply Kd.R_alloc | apply Kd.R_drewN | apply Kd.R_drew)); exact HO118.out) hb); have n3_ := Aside0.mk (Kd.R_below (Kd.R_elderB (by (with_reducible repeat (first | apply Kd.R_alloc | apply Kd.R_drewN | apply Kd.R_drew)); exact HO121.out) gb124 (Nat.le_of_eq hg.symm)) hb); have n4_ := Aside0.mk (blk_below (g := gb111) (o := .cells #[.int .i64 t101, .string t102, .slice Ao14 t103.length co14, .slice Ao15 t106.length co15] 25 (0, 0)) (by (with_reducible repeat (first | refine blk_drewN ?_ _ | refine blk_drew ?_ | refine blk_alloc ?_ _)); exact BK111.out) hb); have n5_ := Aside0.mk (below_step (by repeat (first | (with_reducible first | exact HB.out | apply below_alloc | apply pw_below_drewN | apply below_drew1 | refine below_set ?_ GE111.out) | exact HB.out)) hb); have n6_ := Aside0.mk (hbox); have n7_ := Aside0.mk ((by rw [hg]; exact (below_size (by repeat (first | (with_reducible first | exact HB.out | apply below_alloc | apply pw_below_drewN | apply below_drew1 | refine below_set ?_ GE111.out) | exact HB.out))) : w.heap.size ≤ gb124)); have n8_ := Aside0.mk ((by rw [hg]; exact (below_size (by repeat (first | (with_reducible first | exact HB.out | apply below_alloc | apply pw_below_drewN | apply below_drew1 | refine below_set ?_ GE111.out) | exact HB.out))) : w.heap.size ≤ gb124)); have n9_ := Aside0.mk ((by rw [hg]; exact Nat.ne_of_lt (blk_lt (g := gb111) (o := .cells #[.int .i64 t101, .string t102, .slice Ao14 t103.length co14, .slice Ao15 t106.length co15] 25 (0, 0)) (by (with_reducible repeat (first | refine blk_drewN ?_ _ | refine blk_drew ?_ | refine blk_alloc ?_ _)); exact BK111.out)) : gb111 ≠ gb124)); have n10_ := Aside0.mk ((by rw [hg]; exact Nat.ne_of_gt (blk_lt (g := gb111) (o := .cells #[.int .i64 t101, .string t102, .slice Ao14 t103.length co14, .slice Ao15 t106.length co15] 25 (0, 0)) (by (with_reducible repeat (first | refine blk_drewN ?_ _ | refine blk_drew ?_ | refine blk_alloc ?_ _)); exact BK111.out)) : gb124 ≠ gb111)); clear HO105; clear HO108; clear HO118; clear HO121; clear BK111; clear HB; have HO105 := n0_; have HO108 := n1_; have HO118 := n2_; have HO121 := n3_; have BK111 := n4_; have HB := n5_; have BK124 := n6_; have GW124 := n7_; have GE124 := n8_; have NB111_124 := n9_; have NB124_111 := n10_; clear n0_ n1_ n2_ n3_ n4_ n5_ n6_ n7_ n8_ n9_ n10_; clear hb hbox hg; have hnb19 := NB124_111.out; have hnc19 := NB111_124.out; have hcz20_0 : w18.cell? ⟨gb124, 0, none⟩ = some (.int .i64 0) := (blk_cell BK124.out 0).trans rfl; have hcz20_1 : w18.cell? ⟨gb124, 1, none⟩ = some (.string (⟨#[]⟩ : ByteArray)) := (blk_cell BK124.out 1).trans rfl; have hcz20_2 : w18.cell? ⟨gb124, 2, none⟩ = some (.slice none 0 0) := (blk_cell BK124.out 2).trans rfl; have hcz20_3 : w18.cell? ⟨gb124, 3, none⟩ = some (.slice none 0 0) := (blk_cell BK124.out 3).trans rfl; have hfz20_0 := blk_frozen BK124.out 0; have hfz20_1 := blk_frozen BK124.out 1; have hfz20_2 := blk_frozen BK124.out 2; have hfz20_3 := blk_frozen BK124.out 3; obtain ⟨Ao21, co21, eo21⟩ := Kd.R_slice HO118.out; subst eo21; obtain ⟨Ao22, co22, eo22⟩ := Kd.R_slice HO121.out; subst eo22) | ((with_reducible refine gate_callee (f := 14) rfl ?_); refine goesL_ (some 25) rfl rfl Tryd.func14 (by kernel_rfl) rfl #[.int .i64 t109] rfl (by (try simp only [List.map_toArray, List.map_cons, List.map_nil]); first | done | rfl | (simp only [List.length_drop, List.length_take]; rfl)) ?_; (with_reducible refine (wicketlaw04_num.calls t109 t109 _ A4.out).mono ?_); rintro e w' ⟨rfl, ⟨nd, rfl⟩⟩; refine ⟨_, rfl, ?_⟩) | (go_at_call 14; (with_reducible refine (wicketlaw04_num.calls t113 t113 _ A6.out).mono ?_); rintro e w' ⟨rfl, ⟨nd, rfl⟩⟩) | (go_at_call 14; (with_reducible refine (wicketlaw04_num.calls t122 t122 _ A9.out).mono ?_); rintro e w' ⟨rfl, ⟨nd, rfl⟩⟩))
          go_ret
          exact ⟨by first | rfl | (simp [errW_none, errW_some] <;> rfl) | (simp [*, errW_none, errW_some] <;> rfl), by repeat (first | (with_reducible first | exact HB.out | apply below_alloc | apply pw_below_drewN | apply below_drew1 | refine below_set ?_ GE111.out | refine below_set ?_ GE124.out) | exact HB.out)⟩
        · rw [if_neg c10] at H
          have c10b0 : (t122 == 40) = false := beq_eq_false_iff_ne.mpr c10
          have c10b1 : (t122 != 40) = true := bne_iff_ne.mpr c10
          cases H
      · rw [if_neg c8] at H
        have c8b0 : (t112.toList == ([123, 34, 97, 34, 58, 91, 49, 44, 116, 114, 117, 101, 44, 34, 120, 34, 93, 125] : List UInt8)) = false := beq_eq_false_iff_ne.mpr c8
        have c8b1 : (t112.toList != ([123, 34, 97, 34, 58, 91, 49, 44, 116, 114, 117, 101, 44, 34, 120, 34, 93, 125] : List UInt8)) = true := bne_iff_ne.mpr c8
        cases H
    · rw [if_neg c7] at H
      have c7b0 : (t113 == 0) = false := beq_eq_false_iff_ne.mpr c7
      have c7b1 : (t113 != 0) = true := bne_iff_ne.mpr c7
      cases H
  · rw [if_neg c5] at H
    have c5b0 : (t109 == 0) = false := beq_eq_false_iff_ne.mpr c5
    have c5b1 : (t109 != 0) = true := bne_iff_ne.mpr c5
    cases H
end Go.Proofs.YtaalajhmfdcalaaDoor.X
namespace Go.Proofs.YtaalajhmfdcalaaDoor.X
open Go.RowKit Go.Proofs.YtaalajhmfdcalaaDoorW.PrintWords Go.Proofs.YtaalajhmfdcalaaDoorW.PrintLast Go.Proofs.YtaalajhmfdcalaaDoorW.PrintMore
attribute [local go_sem] max2_int min2_int max_two min_two max_three min_three max_four min_four   -- for this text's walks alone
set_option linter.unusedVariables false
set_option linter.unusedSimpArgs false
mutual
def wicketref04_Equal.j0 : Nat → Bool → Int → ByteArray → List ByteArray → List (S25) → Int → ByteArray → List ByteArray → List (S25) → Option (Bool)
  | 0, _, _, _, _, _, _, _, _, _ => none
  | k + 1, x36, x492000, x492001, x492002, x492003, x493000, x493001, x493002, x493003 => if x36 = true then none else (wicketref04_Equal.l0 k 0 x492000 x492001 x492002 x492003 x493000 x493001 x493002 x493003)
def wicketref04_Equal.l0 : Nat → Int → Int → ByteArray → List ByteArray → List (S25) → Int → ByteArray → List ByteArray → List (S25) → Option (Bool)
  | 0, _, _, _, _, _, _, _, _, _ => none
  | k + 1, x5, x492000, x492001, x492002, x492003, x493000, x493001, x493002, x493003 => if x5 < (x492002.length : Int) then (if 0 ≤ x5 then (if x5 < (x493002.length : Int) then (if (rdOf ByteArray.empty x492002 x5).toList = (rdOf ByteArray.empty x493002 x5).toList then (wicketref04_Equal.l0 k (wrap64 (x5 + 1)) x492000 x492001 x492002 x492003 x493000 x493001 x493002 x493003) else none) else (none)) else (none)) else (wicketref04_Equal.l1 k 0 x492000 x492001 x492002 x492003 x493000 x493001 x493002 x493003)
def wicketref04_Equal.l1 : Nat → Int → Int → ByteArray → List ByteArray → List (S25) → Int → ByteArray → List ByteArray → List (S25) → Option (Bool)
  | 0, _, _, _, _, _, _, _, _, _ => none
  | k + 1, x6, x492000, x492001, x492002, x492003, x493000, x493001, x493002, x493003 => if x6 < (x492003.length : Int) then (if 0 ≤ x6 then (if x6 < (x493003.length : Int) then ((wicketref04_Equal.f k ((rd_T25 x492003 x6).f0) ((rd_T25 x492003 x6).f1) ((rd_T25 x492003 x6).f2) ((rd_T25 x492003 x6).f3) ((rd_T25 x493003 x6).f0) ((rd_T25 x493003 x6).f1) ((rd_T25 x493003 x6).f2) ((rd_T25 x493003 x6).f3)).bind fun t497 => (if t497 = true then (wicketref04_Equal.l1 k (wrap64 (x6 + 1)) x492000 x492001 x492002 x492003 x493000 x493001 x493002 x493003) else none)) else (none)) else (none)) else (some true)
def wicketref04_Equal.f : Nat → Int → ByteArray → List ByteArray → List (S25) → Int → ByteArray → List ByteArray → List (S25) → Option (Bool)
  | 0, _, _, _, _, _, _, _, _ => none
  | k + 1, a0_0, a0_1, l0_2, l0_3, a1_0, a1_1, l1_2, l1_3 => if a0_0 = a1_0 then (if a0_1.toList = a1_1.toList then (if (l0_2.length : Int) = (l1_2.length : Int) then (wicketref04_Equal.j0 k ((l0_3.length : Int) != (l1_3.length : Int)) a0_0 a0_1 l0_2 l0_3 a1_0 a1_1 l1_2 l1_3) else (wicketref04_Equal.j0 k true a0_0 a0_1 l0_2 l0_3 a1_0 a1_1 l1_2 l1_3)) else (wicketref04_Equal.j0 k true a0_0 a0_1 l0_2 l0_3 a1_0 a1_1 l1_2 l1_3)) else (wicketref04_Equal.j0 k true a0_0 a0_1 l0_2 l0_3 a1_0 a1_1 l1_2 l1_3)
end
theorem wicketref04_Equal.mono_l : ∀ k, (∀ y0 y1 y2 y3 y4 y5 y6 y7, LeO (wicketref04_Equal.f k y0 y1 y2 y3 y4 y5 y6 y7) (wicketref04_Equal.f (k + 1) y0 y1 y2 y3 y4 y5 y6 y7)) ∧ (∀ y0 y1 y2 y3 y4 y5 y6 y7 y8, LeO (wicketref04_Equal.j0 k y0 y1 y2 y3 y4 y5 y6 y7 y8) (wicketref04_Equal.j0 (k + 1) y0 y1 y2 y3 y4 y5 y6 y7 y8)) ∧ (∀ y0 y1 y2 y3 y4 y5 y6 y7 y8, LeO (wicketref04_Equal.l0 k y0 y1 y2 y3 y4 y5 y6 y7 y8) (wicketref04_Equal.l0 (k + 1) y0 y1 y2 y3 y4 y5 y6 y7 y8)) ∧ (∀ y0 y1 y2 y3 y4 y5 y6 y7 y8, LeO (wicketref04_Equal.l1 k y0 y1 y2 y3 y4 y5 y6 y7 y8) (wicketref04_Equal.l1 (k + 1) y0 y1 y2 y3 y4 y5 y6 y7 y8))
  | 0 => ⟨fun _ _ _ _ _ _ _ _ r h => by simp [wicketref04_Equal.f] at h, fun _ _ _ _ _ _ _ _ _ r h => by simp [wicketref04_Equal.j0] at h, fun _ _ _ _ _ _ _ _ _ r h => by simp [wicketref04_Equal.l0] at h, fun _ _ _ _ _ _ _ _ _ r h => by simp [wicketref04_Equal.l1] at h⟩
  | k + 1 => by
    obtain ⟨ih0, ih1, ih2, ih3⟩ := wicketref04_Equal.mono_l k
    refine ⟨?_, ?_, ?_, ?_⟩
    · intro y0 y1 y2 y3 y4 y5 y6 y7
      unfold wicketref04_Equal.f
      repeat' first
      | (with_reducible exact ih0 _ _ _ _ _ _ _ _)
      | (with_reducible exact ih1 _ _ _ _ _ _ _ _ _)
      | (with_reducible exact ih2 _ _ _ _ _ _ _ _ _)
      | (with_reducible exact ih3 _ _ _ _ _ _ _ _ _)
      | (with_reducible exact LeO.refl _)
      | (with_reducible exact LeO.none _)
      | (with_reducible refine LeO.ite ?_ ?_)
      | (with_reducible refine LeO.bind ?_ (fun _ => ?_))
      | exact ih0 _ _ _ _ _ _ _ _
      | exact ih1 _ _ _ _ _ _ _ _ _
      | exact ih2 _ _ _ _ _ _ _ _ _
      | exact ih3 _ _ _ _ _ _ _ _ _
      | exact LeO.none _
      | refine LeO.ite ?_ ?_
      | refine LeO.bind ?_ (fun _ => ?_)
    · intro y0 y1 y2 y3 y4 y5 y6 y7 y8
      unfold wicketref04_Equal.j0
      repeat' first
      | (with_reducible exact ih0 _ _ _ _ _ _ _ _)
      | (with_reducible exact ih1 _ _ _ _ _ _ _ _ _)
      | (with_reducible exact ih2 _ _ _ _ _ _ _ _ _)
      | (with_reducible exact ih3 _ _ _ _ _ _ _ _ _)
      | (with_reducible exact LeO.refl _)
      | (with_reducible exact LeO.none _)
      | (with_reducible refine LeO.ite ?_ ?_)
      | (with_reducible refine LeO.bind ?_ (fun _ => ?_))
      | exact ih0 _ _ _ _ _ _ _ _
      | exact ih1 _ _ _ _ _ _ _ _ _
      | exact ih2 _ _ _ _ _ _ _ _ _
      | exact ih3 _ _ _ _ _ _ _ _ _
      | exact LeO.none _
      | refine LeO.ite ?_ ?_
      | refine LeO.bind ?_ (fun _ => ?_)
    · intro y0 y1 y2 y3 y4 y5 y6 y7 y8
      unfold wicketref04_Equal.l0
      repeat' first
      | (with_reducible exact ih0 _ _ _ _ _ _ _ _)
      | (with_reducible exact ih1 _ _ _ _ _ _ _ _ _)
      | (with_reducible exact ih2 _ _ _ _ _ _ _ _ _)
      | (with_reducible exact ih3 _ _ _ _ _ _ _ _ _)
      | (with_reducible exact LeO.refl _)
      | (with_reducible exact LeO.none _)
      | (with_reducible refine LeO.ite ?_ ?_)
      | (with_reducible refine LeO.bind ?_ (fun _ => ?_))
      | exact ih0 _ _ _ _ _ _ _ _
      | exact ih1 _ _ _ _ _ _ _ _ _
      | exact ih2 _ _ _ _ _ _ _ _ _
      | exact ih3 _ _ _ _ _ _ _ _ _
      | exact LeO.none _
      | refine LeO.ite ?_ ?_
      | refine LeO.bind ?_ (fun _ => ?_)
    · intro y0 y1 y2 y3 y4 y5 y6 y7 y8
      unfold wicketref04_Equal.l1
      repeat' first
      | (with_reducible exact ih0 _ _ _ _ _ _ _ _)
      | (with_reducible exact ih1 _ _ _ _ _ _ _ _ _)
      | (with_reducible exact ih2 _ _ _ _ _ _ _ _ _)
      | (with_reducible exact ih3 _ _ _ _ _ _ _ _ _)
      | (with_reducible exact LeO.refl _)
      | (with_reducible exact LeO.none _)
      | (with_reducible refine LeO.ite ?_ ?_)
      | (with_reducible refine LeO.bind ?_ (fun _ => ?_))
      | exact ih0 _ _ _ _ _ _ _ _
      | exact ih1 _ _ _ _ _ _ _ _ _
      | exact ih2 _ _ _ _ _ _ _ _ _
      | exact ih3 _ _ _ _ _ _ _ _ _
      | exact LeO.none _
      | refine LeO.ite ?_ ?_
      | refine LeO.bind ?_ (fun _ => ?_)
theorem wicketref04_Equal.mono : ∀ a0 a1 a2 a3 a4 a5 a6 a7 k, LeO (wicketref04_Equal.f k a0 a1 a2 a3 a4 a5 a6 a7) (wicketref04_Equal.f (k + 1) a0 a1 a2 a3 a4 a5 a6 a7) := by
  intro a0 a1 a2 a3 a4 a5 a6 a7 k
  obtain ⟨ih0, ih1, ih2, ih3⟩ := wicketref04_Equal.mono_l k
  exact ih0 a0 a1 a2 a3 a4 a5 a6 a7
def wicketref04_Equal.T6 : Bool × List (List Nat × List Nat) := (true, [([], []), ([0], [0]), ([], []), ([1, 2], [1, 2]), ([3], [3]), ([], []), ([5], [5]), ([], []), ([6, 7], [6, 7]), ([8], [8]), ([4, 9], [4, 9])])
def wicketref04_Equal.B6 : List Nat := [0, 1, 0, 7, 15, 0, 32, 0, 224, 480, 1023]
theorem wicketref04_Equal.tab6 : rtab .any (opsOf Tryd.f15 6) = wicketref04_Equal.T6 := by kernel_rfl
theorem wicketref04_Equal.bits6 : waitsOk wicketref04_Equal.T6.2 wicketref04_Equal.B6 = true := by kernel_rfl
def wicketref04_Equal.T11 : Bool × List (List Nat × List Nat) := (true, [([], []), ([0], [0]), ([], []), ([1, 2], [1, 2]), ([3], [3]), ([], []), ([5], [5]), ([], []), ([6, 7], [6, 7]), ([8], [8]), ([4, 9], [4, 9]), ([10], [10])])
def wicketref04_Equal.B11 : List Nat := [0, 1, 0, 7, 15, 0, 32, 0, 224, 480, 1023, 2047]
theorem wicketref04_Equal.tab11 : rtab .any (opsOf Tryd.f15 11) = wicketref04_Equal.T11 := by kernel_rfl
theorem wicketref04_Equal.bits11 : waitsOk wicketref04_Equal.T11.2 wicketref04_Equal.B11 = true := by kernel_rfl
set_option maxHeartbeats 8000000 in
set_option maxRecDepth 100000 in
theorem wicketref04_Equal.calls (k : Nat) : ∀ (a0_0 : Int) (a0_1 : ByteArray) (A0_2 : Option Addr) (c0_2 : Nat) (l0_2 : List ByteArray) (A0_3 : Option Addr) (c0_3 : Nat) (l0_3 : List (S25)) (a1_0 : Int) (a1_1 : ByteArray) (A1_2 : Option Addr) (c1_2 : Nat) (l1_2 : List ByteArray) (A1_3 : Option Addr) (c1_3 : Nat) (l1_3 : List (S25)) (r : Bool) (w : World) (hr0_2 : Kd.C Kd.string w A0_2 l0_2.length l0_2) (hc0_2 : l0_2.length ≤ c0_2) (hr0_3 : Kd.C k25 w A0_3 l0_3.length l0_3) (hc0_3 : l0_3.length ≤ c0_3) (hr1_2 : Kd.C Kd.string w A1_2 l1_2.length l1_2) (hc1_2 : l1_2.length ≤ c1_2) (hr1_3 : Kd.C k25 w A1_3 l1_3.length l1_3) (hc1_3 : l1_3.length ≤ c1_3) (h : wicketref04_Equal.f k a0_0 a0_1 l0_2 l0_3 a1_0 a1_1 l1_2 l1_3 = some r),
    Calls Tryd.prog 15 #[.agg #[.int .i64 a0_0, .string a0_1, .slice A0_2 l0_2.length c0_2, .slice A0_3 l0_3.length c0_3], .agg #[.int .i64 a1_0, .string a1_1, .slice A1_2 l1_2.length c1_2, .slice A1_3 l1_3.length c1_3]] w fun e w' => e = .returned (.bool r) ∧ Below w.heap.size w w' := by
  induction k using Nat.strongRecOn with
  | _ k ih =>
  intro a0_0 a0_1 A0_2 c0_2 l0_2 A0_3 c0_3 l0_3 a1_0 a1_1 A1_2 c1_2 l1_2 A1_3 c1_3 l1_3 r w hr0_2 hc0_2 hr0_3 hc0_3 hr1_2 hc1_2 hr1_3 hc1_3 h
  cases k with
  | zero => exact absurd h (by simp [wicketref04_Equal.f])
  | succ k =>
  simp only [wicketref04_Equal.f] at h
  have hu25 := Tryd.underlying25
  have HR0_2 := Aside0.mk hr0_2
  have HC0_2 := Aside0.mk hc0_2
  clear hr0_2 hc0_2
  have HR0_3 := Aside0.mk hr0_3
  have HC0_3 := Aside0.mk hc0_3
  clear hr0_3 hc0_3
  have HR1_2 := Aside0.mk hr1_2
  have HC1_2 := Aside0.mk hc1_2
  clear hr1_2 hc1_2
  have HR1_3 := Aside0.mk hr1_3
  have HC1_3 := Aside0.mk hc1_3
  clear hr1_3 hc1_3
  have HB := Aside0.mk (Below.refl w.heap.size w)
  have H : (if a0_0 = a1_0 then (if a0_1.toList = a1_1.toList then (if (l0_2.length : Int) = (l1_2.length : Int) then (wicketref04_Equal.j0 k ((l0_3.length : Int) != (l1_3.length : Int)) a0_0 a0_1 l0_2 l0_3 a1_0 a1_1 l1_2 l1_3) else (wicketref04_Equal.j0 k true a0_0 a0_1 l0_2 l0_3 a1_0 a1_1 l1_2 l1_3)) else (wicketref04_Equal.j0 k true a0_0 a0_1 l0_2 l0_3 a1_0 a1_1 l1_2 l1_3)) else (wicketref04_Equal.j0 k true a0_0 a0_1 l0_2 l0_3 a1_0 a1_1 l1_2 l1_3)) = some r := h
  clear h
  have HC3 := Aside0.mk H
  clear H
  go_enter Tryd.func15, Tryd.ntmps15
  go_upto_region 1 with (first | ((with_reducible refine gate_dst (N := 2) rfl ?_); (try (refine gate_guard (by rfl) ?_; dsimp only)); refine box_event ?hg (N := 2) ?hd (cs := #[.int .i64 a0_0, .string a0_1, .slice A0_2 l0_2.length c0_2, .slice A0_3 l0_3.length c0_3]) (t := 25) ?hr ?_; (case hd => rfl); (case hg => rfl); (case hr => first | (go_simp; done) | (go_simp; rfl)); intro gb491 hg w4 hbox hb; have n0_ := Aside0.mk (below_step (by repeat (first | (with_reducible first | exact HB.out | apply below_alloc | apply pw_below_drewN | apply below_drew1) | exact HB.out)) hb); have n1_ := Aside0.mk (hbox); have n2_ := Aside0.mk ((by rw [hg]; exact (below_size (by repeat (first | (with_reducible first | exact HB.out | apply below_alloc | apply pw_below_drewN | apply below_drew1) | exact HB.out))) : w.heap.size ≤ gb491)); have n3_ := Aside0.mk ((by rw [hg]; exact (below_size (by repeat (first | (with_reducible first | exact HB.out | apply below_alloc | apply pw_below_drewN | apply below_drew1) | exact HB.out))) : w.heap.size ≤ gb491)); clear HB; have HB := n0_; have BK491 := n1_; have GW491 := n2_; have GE491 := n3_; clear n0_ n1_ n2_ n3_; clear hb hbox hg) | ((with_reducible refine gate_dst (N := 3) rfl ?_); (try (refine gate_guard (by rfl) ?_; dsimp only)); refine box_event ?hg (N := 3) ?hd (cs := #[.int .i64 a1_0, .string a1_1, .slice A1_2 l1_2.length c1_2, .slice A1_3 l1_3.length c1_3]) (t := 25) ?hr ?_; (case hd => rfl); (case hg => rfl); (case hr => first | (go_simp; done) | (go_simp; rfl)); intro gb492 hg w5 hbox hb; have n0_ := Aside0.mk (blk_below (g := gb491) (o := .cells #[.int .i64 a0_0, .string a0_1, .slice A0_2 l0_2.length c0_2, .slice A0_3 l0_3.length c0_3] 25 (0, 0)) (by (with_reducible repeat (first | refine blk_drewN ?_ _ | refine blk_drew ?_ | refine blk_alloc ?_ _)); exact BK491.out) hb); have n1_ := Aside0.mk (below_step (by repeat (first | (with_reducible first | exact HB.out | apply below_alloc | apply pw_below_drewN | apply below_drew1 | refine below_set ?_ GE491.out) | exact HB.out)) hb); have n2_ := Aside0.mk (hbox); have n3_ := Aside0.mk ((by rw [hg]; exact (below_size (by repeat (first | (with_reducible first | exact HB.out | apply below_alloc | apply pw_below_drewN | apply below_drew1 | refine below_set ?_ GE491.out) | exact HB.out))) : w.heap.size ≤ gb492)); have n4_ := Aside0.mk ((by rw [hg]; exact (below_size (by repeat (first | (with_reducible first | exact HB.out | apply below_alloc | apply pw_below_drewN | apply below_drew1 | refine below_set ?_ GE491.out) | exact HB.out))) : w.heap.size ≤ gb492)); have n5_ := Aside0.mk ((by rw [hg]; exact Nat.ne_of_lt (blk_lt (g := gb491) (o := .cells #[.int .i64 a0_0, .string a0_1, .slice A0_2 l0_2.length c0_2, .slice A0_3 l0_3.length c0_3] 25 (0, 0)) (by (with_reducible repeat (first | refine blk_drewN ?_ _ | refine blk_drew ?_ | refine blk_alloc ?_ _)); exact BK491.out)) : gb491 ≠ gb492)); have n6_ := Aside0.mk ((by rw [hg]; exact Nat.ne_of_gt (blk_lt (g := gb491) (o := .cells #[.int .i64 a0_0, .string a0_1, .slice A0_2 l0_2.length c0_2, .slice A0_3 l0_3.length c0_3] 25 (0, 0)) (by (with_reducible repeat (first | refine blk_drewN ?_ _ | refine blk_drew ?_ | refine blk_alloc ?_ _)); exact BK491.out)) : gb492 ≠ gb491)); clear BK491; clear HB; have BK491 := n0_; have HB := n1_; have BK492 := n2_; have GW492 := n3_; have GE492 := n4_; have NB491_492 := n5_; have NB492_491 := n6_; clear n0_ n1_ n2_ n3_ n4_ n5_ n6_; clear hb hbox hg))
  (try simp only [Act.put, List.setIfInBounds_toArray, List.set_cons_zero, List.set_cons_succ])
  go_cut [36] (fun v36 wc => ∃ (kq : Nat) (x36_2 : Bool), v36 = .bool x36_2 ∧ Aside0 (wicketref04_Equal.j0 kq x36_2 a0_0 a0_1 l0_2 l0_3 a1_0 a1_1 l1_2 l1_3 = some r) ∧ Aside0 (kq ≤ k) ∧ Aside0 (wc.heap[gb491]? = some (.cells #[.int .i64 a0_0, .string a0_1, (.slice A0_2 l0_2.length c0_2), (.slice A0_3 l0_3.length c0_3)] 25 (0, 0))) ∧ Aside0 (wc.heap[gb492]? = some (.cells #[.int .i64 a1_0, .string a1_1, (.slice A1_2 l1_2.length c1_2), (.slice A1_3 l1_3.length c1_3)] 25 (0, 0))) ∧ Aside0 (Below w.heap.size w wc))
  case first =>
    have H := HC3.out
    clear HC3
    by_cases c6 : a0_0 = a1_0
    · rw [if_pos c6] at H
      have c6b0 : (a0_0 == a1_0) = true := beq_iff_eq.mpr c6
      have c6b1 : (a0_0 != a1_0) = false := bne_eq_false_iff_eq.mpr c6
      clear c6
      (first | rw [c6b0] | (simp only [i64_w, i32_w]; rw [c6b0]) | skip)
      by_cases c7 : a0_1.toList = a1_1.toList
      · rw [if_pos c7] at H
        have c7b0 : (a0_1.toList == a1_1.toList) = true := beq_iff_eq.mpr c7
        have c7b1 : (a0_1.toList != a1_1.toList) = false := bne_eq_false_iff_eq.mpr c7
        clear c7
        by_cases c8 : (l0_2.length : Int) = (l1_2.length : Int)
        · rw [if_pos c8] at H
          have c8b0 : ((l0_2.length : Int) == (l1_2.length : Int)) = true := beq_iff_eq.mpr c8
          have c8b1 : ((l0_2.length : Int) != (l1_2.length : Int)) = false := bne_eq_false_iff_eq.mpr c8
          have c8b2 : (l0_2.length == l1_2.length) = true := by first | simpa using c8 | (simp at c8 ⊢; omega)
          clear c8
          have H' := Aside0.mk H
          clear H
          have hnb9 := NB491_492.out
          have hnc9 := NB492_491.out
          have hcz10_0 : w5.cell? ⟨gb491, 0, none⟩ = some (.int .i64 a0_0) := (blk_cell BK491.out 0).trans rfl
          have hcz10_1 : w5.cell? ⟨gb491, 1, none⟩ = some (.string a0_1) := (blk_cell BK491.out 1).trans rfl
          have hcz10_2 : w5.cell? ⟨gb491, 2, none⟩ = some (.slice A0_2 l0_2.length c0_2) := (blk_cell BK491.out 2).trans rfl
          have hcz10_3 : w5.cell? ⟨gb491, 3, none⟩ = some (.slice A0_3 l0_3.length c0_3) := (blk_cell BK491.out 3).trans rfl
          have hfz10_0 := blk_frozen BK491.out 0
          have hfz10_1 := blk_frozen BK491.out 1
          have hfz10_2 := blk_frozen BK491.out 2
          have hfz10_3 := blk_frozen BK491.out 3
          have hcz11_0 : w5.cell? ⟨gb492, 0, none⟩ = some (.int .i64 a1_0) := (blk_cell BK492.out 0).trans rfl
          have hcz11_1 : w5.cell? ⟨gb492, 1, none⟩ = some (.string a1_1) := (blk_cell BK492.out 1).trans rfl
          have hcz11_2 : w5.cell? ⟨gb492, 2, none⟩ = some (.slice A1_2 l1_2.length c1_2) := (blk_cell BK492.out 2).trans rfl
          have hcz11_3 : w5.cell? ⟨gb492, 3, none⟩ = some (.slice A1_3 l1_3.length c1_3) := (blk_cell BK492.out 3).trans rfl
          have hfz11_0 := blk_frozen BK492.out 0
          have hfz11_1 := blk_frozen BK492.out 1
          have hfz11_2 := blk_frozen BK492.out 2
          have hfz11_3 := blk_frozen BK492.out 3
          go_wp2
          go_meet
          case rel => exact ⟨_, (((l0_3.length : Int) != (l1_3.length : Int))), (by first | rfl | (simp; done) | (simp [*]; done)), H', ⟨by first | omega | exact Nat.le_refl _⟩, ⟨by (with_reducible repeat (first | refine blk_drewN ?_ _ | refine blk_drew ?_ | refine blk_alloc ?_ _)); exact BK491.out⟩, ⟨by (with_reducible repeat (first | refine blk_drewN ?_ _ | refine blk_drew ?_ | refine blk_alloc ?_ _)); exact BK492.out⟩, ⟨by repeat (first | (with_reducible first | exact HB.out | apply below_alloc | apply pw_below_drewN | apply below_drew1 | refine below_set ?_ GE491.out | refine below_set ?_ GE492.out) | exact HB.out)⟩⟩
        · rw [if_neg c8] at H
          have c8b0 : ((l0_2.length : Int) == (l1_2.length : Int)) = false := beq_eq_false_iff_ne.mpr c8
          have c8b1 : ((l0_2.length : Int) != (l1_2.length : Int)) = true := bne_iff_ne.mpr c8
          have c8b2 : (l0_2.length == l1_2.length) = false := by first | simpa using c8 | (simp at c8 ⊢; omega)
          have H' := Aside0.mk H
          clear H
          have hnb12 := NB491_492.out
          have hnc12 := NB492_491.out
          have hcz13_0 : w5.cell? ⟨gb491, 0, none⟩ = some (.int .i64 a0_0) := (blk_cell BK491.out 0).trans rfl
          have hcz13_1 : w5.cell? ⟨gb491, 1, none⟩ = some (.string a0_1) := (blk_cell BK491.out 1).trans rfl
          have hcz13_2 : w5.cell? ⟨gb491, 2, none⟩ = some (.slice A0_2 l0_2.length c0_2) := (blk_cell BK491.out 2).trans rfl
          have hcz13_3 : w5.cell? ⟨gb491, 3, none⟩ = some (.slice A0_3 l0_3.length c0_3) := (blk_cell BK491.out 3).trans rfl
          have hfz13_0 := blk_frozen BK491.out 0
          have hfz13_1 := blk_frozen BK491.out 1
          have hfz13_2 := blk_frozen BK491.out 2
          have hfz13_3 := blk_frozen BK491.out 3
          have hcz14_0 : w5.cell? ⟨gb492, 0, none⟩ = some (.int .i64 a1_0) := (blk_cell BK492.out 0).trans rfl
          have hcz14_1 : w5.cell? ⟨gb492, 1, none⟩ = some (.string a1_1) := (blk_cell BK492.out 1).trans rfl
          have hcz14_2 : w5.cell? ⟨gb492, 2, none⟩ = some (.slice A1_2 l1_2.length c1_2) := (blk_cell BK492.out 2).trans rfl
          have hcz14_3 : w5.cell? ⟨gb492, 3, none⟩ = some (.slice A1_3 l1_3.length c1_3) := (blk_cell BK492.out 3).trans rfl
          have hfz14_0 := blk_frozen BK492.out 0
          have hfz14_1 := blk_frozen BK492.out 1
          have hfz14_2 := blk_frozen BK492.out 2
          have hfz14_3 := blk_frozen BK492.out 3
          go_wp2
          go_meet
          case rel => exact ⟨_, (true), (by first | rfl | (simp; done) | (simp [*]; done)), H', ⟨by first | omega | exact Nat.le_refl _⟩, ⟨by (with_reducible repeat (first | refine blk_drewN ?_ _ | refine blk_drew ?_ | refine blk_alloc ?_ _)); exact BK491.out⟩, ⟨by (with_reducible repeat (first | refine blk_drewN ?_ _ | refine blk_drew ?_ | refine blk_alloc ?_ _)); exact BK492.out⟩, ⟨by repeat (first | (with_reducible first | exact HB.out | apply below_alloc | apply pw_below_drewN | apply below_drew1 | refine below_set ?_ GE491.out | refine below_set ?_ GE492.out) | exact HB.out)⟩⟩
      · rw [if_neg c7] at H
        have c7b0 : (a0_1.toList == a1_1.toList) = false := beq_eq_false_iff_ne.mpr c7
        have c7b1 : (a0_1.toList != a1_1.toList) = true := bne_iff_ne.mpr c7
        have H' := Aside0.mk H
        clear H
        have hnb15 := NB491_492.out
        have hnc15 := NB492_491.out
        have hcz16_0 : w5.cell? ⟨gb491, 0, none⟩ = some (.int .i64 a0_0) := (blk_cell BK491.out 0).trans rfl
        have hcz16_1 : w5.cell? ⟨gb491, 1, none⟩ = some (.string a0_1) := (blk_cell BK491.out 1).trans rfl
        have hcz16_2 : w5.cell? ⟨gb491, 2, none⟩ = some (.slice A0_2 l0_2.length c0_2) := (blk_cell BK491.out 2).trans rfl
        have hcz16_3 : w5.cell? ⟨gb491, 3, none⟩ = some (.slice A0_3 l0_3.length c0_3) := (blk_cell BK491.out 3).trans rfl
        have hfz16_0 := blk_frozen BK491.out 0
        have hfz16_1 := blk_frozen BK491.out 1
        have hfz16_2 := blk_frozen BK491.out 2
        have hfz16_3 := blk_frozen BK491.out 3
        have hcz17_0 : w5.cell? ⟨gb492, 0, none⟩ = some (.int .i64 a1_0) := (blk_cell BK492.out 0).trans rfl
        have hcz17_1 : w5.cell? ⟨gb492, 1, none⟩ = some (.string a1_1) := (blk_cell BK492.out 1).trans rfl
        have hcz17_2 : w5.cell? ⟨gb492, 2, none⟩ = some (.slice A1_2 l1_2.length c1_2) := (blk_cell BK492.out 2).trans rfl
        have hcz17_3 : w5.cell? ⟨gb492, 3, none⟩ = some (.slice A1_3 l1_3.length c1_3) := (blk_cell BK492.out 3).trans rfl
        have hfz17_0 := blk_frozen BK492.out 0
        have hfz17_1 := blk_frozen BK492.out 1
        have hfz17_2 := blk_frozen BK492.out 2
        have hfz17_3 := blk_frozen BK492.out 3
        go_wp2
        go_meet
        case rel => exact ⟨_, (true), (by first | rfl | (simp; done) | (simp [*]; done)), H', ⟨by first | omega | exact Nat.le_refl _⟩, ⟨by (with_reducible repeat (first | refine blk_drewN ?_ _ | refine blk_drew ?_ | refine blk_alloc ?_ _)); exact BK491.out⟩, ⟨by (with_reducible repeat (first | refine blk_drewN ?_ _ | refine blk_drew ?_ | refine blk_alloc ?_ _)); exact BK492.out⟩, ⟨by repeat (first | (with_reducible first | exact HB.out | apply below_alloc | apply pw_below_drewN | apply below_drew1 | refine below_set ?_ GE491.out | refine below_set ?_ GE492.out) | exact HB.out)⟩⟩
    · rw [if_neg c6] at H
      have c6b0 : (a0_0 == a1_0) = false := beq_eq_false_iff_ne.mpr c6
      have c6b1 : (a0_0 != a1_0) = true := bne_iff_ne.mpr c6
      (first | rw [c6b0] | (simp only [i64_w, i32_w]; rw [c6b0]) | skip)
      have H' := Aside0.mk H
      clear H
      have hnb18 := NB491_492.out
      have hnc18 := NB492_491.out
      have hcz19_0 : w5.cell? ⟨gb491, 0, none⟩ = some (.int .i64 a0_0) := (blk_cell BK491.out 0).trans rfl
      have hcz19_1 : w5.cell? ⟨gb491, 1, none⟩ = some (.string a0_1) := (blk_cell BK491.out 1).trans rfl
      have hcz19_2 : w5.cell? ⟨gb491, 2, none⟩ = some (.slice A0_2 l0_2.length c0_2) := (blk_cell BK491.out 2).trans rfl
      have hcz19_3 : w5.cell? ⟨gb491, 3, none⟩ = some (.slice A0_3 l0_3.length c0_3) := (blk_cell BK491.out 3).trans rfl
      have hfz19_0 := blk_frozen BK491.out 0
      have hfz19_1 := blk_frozen BK491.out 1
      have hfz19_2 := blk_frozen BK491.out 2
      have hfz19_3 := blk_frozen BK491.out 3
      have hcz20_0 : w5.cell? ⟨gb492, 0, none⟩ = some (.int .i64 a1_0) := (blk_cell BK492.out 0).trans rfl
      have hcz20_1 : w5.cell? ⟨gb492, 1, none⟩ = some (.string a1_1) := (blk_cell BK492.out 1).trans rfl
      have hcz20_2 : w5.cell? ⟨gb492, 2, none⟩ = some (.slice A1_2 l1_2.length c1_2) := (blk_cell BK492.out 2).trans rfl
      have hcz20_3 : w5.cell? ⟨gb492, 3, none⟩ = some (.slice A1_3 l1_3.length c1_3) := (blk_cell BK492.out 3).trans rfl
      have hfz20_0 := blk_frozen BK492.out 0
      have hfz20_1 := blk_frozen BK492.out 1
      have hfz20_2 := blk_frozen BK492.out 2
      have hfz20_3 := blk_frozen BK492.out 3
      go_wp2
      go_meet
      case rel => exact ⟨_, (true), (by first | rfl | (simp; done) | (simp [*]; done)), H', ⟨by first | omega | exact Nat.le_refl _⟩, ⟨by (with_reducible repeat (first | refine blk_drewN ?_ _ | refine blk_drew ?_ | refine blk_alloc ?_ _)); exact BK491.out⟩, ⟨by (with_reducible repeat (first | refine blk_drewN ?_ _ | refine blk_drew ?_ | refine blk_alloc ?_ _)); exact BK492.out⟩, ⟨by repeat (first | (with_reducible first | exact HB.out | apply below_alloc | apply pw_below_drewN | apply below_drew1 | refine below_set ?_ GE491.out | refine below_set ?_ GE492.out) | exact HB.out)⟩⟩
  case rest =>
    clear HC3
    try clear c1
    try clear p2
    try clear c6
    try clear c6b0
    try clear c6b1
    try clear c7
    try clear c7b0
    try clear c7b1
    try clear c8
    try clear c8b0
    try clear c8b1
    try clear c8b2
    try clear c9
    try clear c12
    try clear c15
    try clear c18
    try clear hcz10_0
    try clear hcz10_1
    try clear hcz10_2
    try clear hcz10_3
    try clear hcz11_0
    try clear hcz11_1
    try clear hcz11_2
    try clear hcz11_3
    try clear hcz13_0
    try clear hcz13_1
    try clear hcz13_2
    try clear hcz13_3
    try clear hcz14_0
    try clear hcz14_1
    try clear hcz14_2
    try clear hcz14_3
    try clear hcz16_0
    try clear hcz16_1
    try clear hcz16_2
    try clear hcz16_3
    try clear hcz17_0
    try clear hcz17_1
    try clear hcz17_2
    try clear hcz17_3
    try clear hcz19_0
    try clear hcz19_1
    try clear hcz19_2
    try clear hcz19_3
    try clear hcz20_0
    try clear hcz20_1
    try clear hcz20_2
    try clear hcz20_3
    try clear hfz10_0
    try clear hfz10_1
    try clear hfz10_2
    try clear hfz10_3
    try clear hfz11_0
    try clear hfz11_1
    try clear hfz11_2
    try clear hfz11_3
    try clear hfz13_0
    try clear hfz13_1
    try clear hfz13_2
    try clear hfz13_3
    try clear hfz14_0
    try clear hfz14_1
    try clear hfz14_2
    try clear hfz14_3
    try clear hfz16_0
    try clear hfz16_1
    try clear hfz16_2
    try clear hfz16_3
    try clear hfz17_0
    try clear hfz17_1
    try clear hfz17_2
    try clear hfz17_3
    try clear hfz19_0
    try clear hfz19_1
    try clear hfz19_2
    try clear hfz19_3
    try clear hfz20_0
    try clear hfz20_1
    try clear hfz20_2
    try clear hfz20_3
    obtain ⟨kq, x36_2, rfl, HA, HJ2, BK491, BK492, HB⟩ := hcut
    cases kq with
    | zero => exact absurd HA.out (by simp [wicketref04_Equal.j0])
    | succ kj2 =>
      have H := HA.out
      clear HA
      simp only [wicketref04_Equal.j0] at H
      by_cases c21 : x36_2 = true
      · subst c21
        have H1 : none = some r := by rw [if_pos rfl] at H; exact H
        clear H
        have H := H1
        clear H1
        cases H
      · replace c21 := Bool.eq_false_iff.mpr c21
        subst c21
        have H1 : (wicketref04_Equal.l0 kj2 0 a0_0 a0_1 l0_2 l0_3 a1_0 a1_1 l1_2 l1_3) = some r := by rw [if_neg (show ¬ (false = true) by decide)] at H; exact H
        clear H
        have H := H1
        clear H1
        have H' := Aside0.mk H
        clear H
        go_wp2
        go_loopg [5] kj2 (fun kq v5 w' => ∃ (x5_2 : Int), v5 = .int .i64 x5_2 ∧ Aside0 (wicketref04_Equal.l0 kq x5_2 a0_0 a0_1 l0_2 l0_3 a1_0 a1_1 l1_2 l1_3 = some r) ∧ Aside0 (kq ≤ kj2) ∧ Aside0 (w'.heap[gb491]? = some (.cells #[.int .i64 a0_0, .string a0_1, (.slice A0_2 l0_2.length c0_2), (.slice A0_3 l0_3.length c0_3)] 25 (0, 0))) ∧ Aside0 (w'.heap[gb492]? = some (.cells #[.int .i64 a1_0, .string a1_1, (.slice A1_2 l1_2.length c1_2), (.slice A1_3 l1_3.length c1_3)] 25 (0, 0))) ∧ Aside0 (Below w.heap.size w w'))
        case atStart => exact ⟨(0), (by first | rfl | (simp; done) | (simp [*]; done)), H', ⟨Nat.le_refl _⟩, ⟨by (with_reducible repeat (first | refine blk_drewN ?_ _ | refine blk_drew ?_ | refine blk_alloc ?_ _)); exact BK491.out⟩, ⟨by (with_reducible repeat (first | refine blk_drewN ?_ _ | refine blk_drew ?_ | refine blk_alloc ?_ _)); exact BK492.out⟩, ⟨by repeat (first | (with_reducible first | exact HB.out | apply below_alloc | apply pw_below_drewN | apply below_drew1 | refine below_set ?_ GE491.out | refine below_set ?_ GE492.out) | exact HB.out)⟩⟩
        case round =>
          clear H'
          try clear c1
          try clear c2
          try clear p2
          try clear c6
          try clear c6b0
          try clear c6b1
          try clear c7
          try clear c7b0
          try clear c7b1
          try clear c8
          try clear c8b0
          try clear c8b1
          try clear c8b2
          try clear c9
          try clear c12
          try clear c15
          try clear c18
          try clear c21
          try clear hcz10_0
          try clear hcz10_1
          try clear hcz10_2
          try clear hcz10_3
          try clear hcz11_0
          try clear hcz11_1
          try clear hcz11_2
          try clear hcz11_3
          try clear hcz13_0
          try clear hcz13_1
          try clear hcz13_2
          try clear hcz13_3
          try clear hcz14_0
          try clear hcz14_1
          try clear hcz14_2
          try clear hcz14_3
          try clear hcz16_0
          try clear hcz16_1
          try clear hcz16_2
          try clear hcz16_3
          try clear hcz17_0
          try clear hcz17_1
          try clear hcz17_2
          try clear hcz17_3
          try clear hcz19_0
          try clear hcz19_1
          try clear hcz19_2
          try clear hcz19_3
          try clear hcz20_0
          try clear hcz20_1
          try clear hcz20_2
          try clear hcz20_3
          try clear hfz10_0
          try clear hfz10_1
          try clear hfz10_2
          try clear hfz10_3
          try clear hfz11_0
          try clear hfz11_1
          try clear hfz11_2
          try clear hfz11_3
          try clear hfz13_0
          try clear hfz13_1
          try clear hfz13_2
          try clear hfz13_3
          try clear hfz14_0
          try clear hfz14_1
          try clear hfz14_2
          try clear hfz14_3
          try clear hfz16_0
          try clear hfz16_1
          try clear hfz16_2
          try clear hfz16_3
          try clear hfz17_0
          try clear hfz17_1
          try clear hfz17_2
          try clear hfz17_3
          try clear hfz19_0
          try clear hfz19_1
          try clear hfz19_2
          try clear hfz19_3
          try clear hfz20_0
          try clear hfz20_1
          try clear hfz20_2
          try clear hfz20_3
          try clear p2
          obtain ⟨x5_2, rfl, HA, HK2, BK491, BK492, HB⟩ := hrel
          cases gk with
          | zero => exact absurd HA.out (by simp [wicketref04_Equal.l0])
          | succ k2 =>
            have H := HA.out
            clear HA
            simp only [wicketref04_Equal.l0] at H
            by_cases c22 : x5_2 < (l0_2.length : Int)
            · rw [if_pos c22] at H
              have c22b0 : decide (x5_2 < (l0_2.length : Int)) = true := decide_eq_true c22
              clear c22
              by_cases c23 : 0 ≤ x5_2
              · rw [if_pos c23] at H
                have c23b0 : decide (0 ≤ x5_2) = true := decide_eq_true c23
                clear c23
                by_cases c24 : x5_2 < (l1_2.length : Int)
                · rw [if_pos c24] at H
                  have c24b0 : decide (x5_2 < (l1_2.length : Int)) = true := decide_eq_true c24
                  clear c24
                  by_cases c25 : (rdOf ByteArray.empty l0_2 x5_2).toList = (rdOf ByteArray.empty l1_2 x5_2).toList
                  · rw [if_pos c25] at H
                    have c25b0 : ((rdOf ByteArray.empty l0_2 x5_2).toList == (rdOf ByteArray.empty l1_2 x5_2).toList) = true := beq_iff_eq.mpr c25
                    have c25b1 : ((rdOf ByteArray.empty l0_2 x5_2).toList != (rdOf ByteArray.empty l1_2 x5_2).toList) = false := bne_eq_false_iff_eq.mpr c25
                    clear c25
                    have H' := Aside0.mk H
                    clear H
                    have hnb26 := NB491_492.out
                    have hnc26 := NB492_491.out
                    have hcz27_0 : wr.cell? ⟨gb491, 0, none⟩ = some (.int .i64 a0_0) := (blk_cell BK491.out 0).trans rfl
                    have hcz27_1 : wr.cell? ⟨gb491, 1, none⟩ = some (.string a0_1) := (blk_cell BK491.out 1).trans rfl
                    have hcz27_2 : wr.cell? ⟨gb491, 2, none⟩ = some (.slice A0_2 l0_2.length c0_2) := (blk_cell BK491.out 2).trans rfl
                    have hcz27_3 : wr.cell? ⟨gb491, 3, none⟩ = some (.slice A0_3 l0_3.length c0_3) := (blk_cell BK491.out 3).trans rfl
                    have hfz27_0 := blk_frozen BK491.out 0
                    have hfz27_1 := blk_frozen BK491.out 1
                    have hfz27_2 := blk_frozen BK491.out 2
                    have hfz27_3 := blk_frozen BK491.out 3
                    try go_wp2
                    have n0_ := Aside0.mk (blk_drew BK491.out)
                    have n1_ := Aside0.mk (blk_drew BK492.out)
                    have n2_ := Aside0.mk (below_drew1 HB.out)
                    clear BK491
                    clear BK492
                    clear HB
                    have BK491 := n0_
                    have BK492 := n1_
                    have HB := n2_
                    clear n0_ n1_ n2_
                    have p493 : 0 ≤ (x5_2 : Int) := of_decide_eq_true (by first | (with_reducible assumption) | assumption)
                    have q493 : x5_2 < (l0_2.length : Int) := of_decide_eq_true (by first | (with_reducible assumption) | assumption)
                    obtain ⟨ad493, e493, hx493_0⟩ := Kd.at_string HR0_2.out x5_2 p493 q493
                    have hw493_0 := hx493_0
                    cases e493
                    replace hx493_0 := (HB.out.cell (World.block_lt_of_cell? w _ hx493_0)).trans hx493_0
                    replace p493 := eq_true p493
                    replace q493 := eq_true q493
                    have p494 : 0 ≤ (x5_2 : Int) := of_decide_eq_true (by first | (with_reducible assumption) | assumption)
                    have q494 : x5_2 < (l1_2.length : Int) := of_decide_eq_true (by first | (with_reducible assumption) | assumption)
                    obtain ⟨ad494, e494, hx494_0⟩ := Kd.at_string HR1_2.out x5_2 p494 q494
                    have hw494_0 := hx494_0
                    cases e494
                    replace hx494_0 := (HB.out.cell (World.block_lt_of_cell? w _ hx494_0)).trans hx494_0
                    replace p494 := eq_true p494
                    replace q494 := eq_true q494
                    refine start_ (n := 11) (S := fun w' => w'.cell? ⟨gb491, 0, none⟩ = some (.int .i64 a0_0) ∧ w'.cell? ⟨gb491, 1, none⟩ = some (.string a0_1) ∧ w'.cell? ⟨gb491, 2, none⟩ = some (.slice (some ad493) l0_2.length c0_2) ∧ w'.cell? ⟨gb491, 3, none⟩ = some (.slice A0_3 l0_3.length c0_3) ∧ w'.cell? ⟨gb492, 0, none⟩ = some (.int .i64 a1_0) ∧ w'.cell? ⟨gb492, 1, none⟩ = some (.string a1_1) ∧ w'.cell? ⟨gb492, 2, none⟩ = some (.slice (some ad494) l1_2.length c1_2) ∧ w'.cell? ⟨gb492, 3, none⟩ = some (.slice A1_3 l1_3.length c1_3) ∧ w'.cell? (ad493.add (x5_2).toNat) = some (.string (rdOf ByteArray.empty l0_2 x5_2)) ∧ w'.cell? (ad494.add (x5_2).toNat) = some (.string (rdOf ByteArray.empty l1_2 x5_2))) (ds := []) #[false, false, false, false, false, false, false, false, false, false, false] (by kernel_rfl) rfl rfl ⟨(blk_cell BK491.out 0).trans rfl, (blk_cell BK491.out 1).trans rfl, (blk_cell BK491.out 2).trans rfl, (blk_cell BK491.out 3).trans rfl, (blk_cell BK492.out 0).trans rfl, (blk_cell BK492.out 1).trans rfl, (blk_cell BK492.out 2).trans rfl, (blk_cell BK492.out 3).trans rfl, ((HB.out.cell (World.block_lt_of_cell? w _ hw493_0)).trans hw493_0), ((HB.out.cell (World.block_lt_of_cell? w _ hw494_0)).trans hw494_0)⟩ (fun hHeld => ?_); refine with_tabW wicketref04_Equal.tab6 wicketref04_Equal.bits6 (fun HT_ HW_ => ?_)
                    generalize wr.drew = w28 at BK491 BK492 HB hx493_0 hx494_0 hHeld ⊢
                    refine pure_ (i := 0) (N := some 44) (v := ?_) (a' := ?_) #[true, false, false, false, false, false, false, false, false, false, false] rfl rfl (any_of HT_.out (by kernel_rfl)) (fun _ _ _ h => h) (Or.inl ⟨by rfl, ?_⟩) ?_ ?_
                    rotate_left
                    · intro w'
                      go_simp
                      with_reducible rfl
                    rotate_left
                    · simp only [Act.put, List.setIfInBounds_toArray, List.set_cons_zero, List.set_cons_succ, i64_w, i32_w]
                      rfl
                    refine pure_ (i := 2) (N := some 46) (v := ?_) (a' := ?_) #[true, false, true, false, false, false, false, false, false, false, false] rfl rfl (any_of HT_.out (by kernel_rfl)) (fun _ _ _ h => h) (Or.inl ⟨by rfl, ?_⟩) ?_ ?_
                    rotate_left
                    · intro w'
                      go_simp
                      with_reducible rfl
                    rotate_left
                    · simp only [Act.put, List.setIfInBounds_toArray, List.set_cons_zero, List.set_cons_succ, i64_w, i32_w]
                      rfl
                    refine pure_ (i := 5) (N := some 49) (v := ?_) (a' := ?_) #[true, false, true, false, false, true, false, false, false, false, false] rfl rfl (any_of HT_.out (by kernel_rfl)) (fun _ _ _ h => h) (Or.inl ⟨by rfl, ?_⟩) ?_ ?_
                    rotate_left
                    · intro w'
                      go_simp
                      with_reducible rfl
                    rotate_left
                    · simp only [Act.put, List.setIfInBounds_toArray, List.set_cons_zero, List.set_cons_succ, i64_w, i32_w]
                      rfl
                    refine pure_ (i := 7) (N := some 51) (v := ?_) (a' := ?_) #[true, false, true, false, false, true, false, true, false, false, false] rfl rfl (any_of HT_.out (by kernel_rfl)) (fun _ _ _ h => h) (Or.inl ⟨by rfl, ?_⟩) ?_ ?_
                    rotate_left
                    · intro w'
                      go_simp
                      with_reducible rfl
                    rotate_left
                    · simp only [Act.put, List.setIfInBounds_toArray, List.set_cons_zero, List.set_cons_succ, i64_w, i32_w]
                      rfl
                    refine take_ (i := 1) (N := some 45) (v := ?_) (a' := ?_) #[true, true, true, false, false, true, false, true, false, false, false] rfl rfl (take_ofW HT_.out HW_.out (by kernel_rfl)) (fun _ _ _ h => h) (Or.inl ⟨by rfl, ?_⟩) hHeld ?_ ?_
                    rotate_left
                    · rintro w' ⟨s0, s1, s2, s3, s4, s5, s6, s7, s8, s9⟩
                      go_simp
                      with_reducible rfl
                    rotate_left
                    · simp only [Act.put, List.setIfInBounds_toArray, List.set_cons_zero, List.set_cons_succ, i64_w, i32_w]
                      rfl
                    refine pure_ (i := 3) (N := some 47) (v := ?_) (a' := ?_) #[true, true, true, true, false, true, false, true, false, false, false] rfl rfl (any_of HT_.out (by kernel_rfl)) (fun _ _ _ h => h) (Or.inl ⟨by rfl, ?_⟩) ?_ ?_
                    rotate_left
                    · intro w'
                      go_simp
                      with_reducible rfl
                    rotate_left
                    · simp only [Act.put, List.setIfInBounds_toArray, List.set_cons_zero, List.set_cons_succ, i64_w, i32_w]
                      rfl
                    refine take_ (i := 4) (N := some 48) (v := ?_) (a' := ?_) #[true, true, true, true, true, true, false, true, false, false, false] rfl rfl (take_ofW HT_.out HW_.out (by kernel_rfl)) (fun _ _ _ h => h) (Or.inl ⟨by rfl, ?_⟩) hHeld ?_ ?_
                    rotate_left
                    · rintro w' ⟨s0, s1, s2, s3, s4, s5, s6, s7, s8, s9⟩
                      go_simp
                      with_reducible rfl
                    rotate_left
                    · simp only [Act.put, List.setIfInBounds_toArray, List.set_cons_zero, List.set_cons_succ, i64_w, i32_w]
                      rfl
                    refine take_ (i := 6) (N := some 50) (v := ?_) (a' := ?_) #[true, true, true, true, true, true, true, true, false, false, false] rfl rfl (take_ofW HT_.out HW_.out (by kernel_rfl)) (fun _ _ _ h => h) (Or.inl ⟨by rfl, ?_⟩) hHeld ?_ ?_
                    rotate_left
                    · rintro w' ⟨s0, s1, s2, s3, s4, s5, s6, s7, s8, s9⟩
                      go_simp
                      with_reducible rfl
                    rotate_left
                    · simp only [Act.put, List.setIfInBounds_toArray, List.set_cons_zero, List.set_cons_succ, i64_w, i32_w]
                      rfl
                    refine pure_ (i := 8) (N := some 52) (v := ?_) (a' := ?_) #[true, true, true, true, true, true, true, true, true, false, false] rfl rfl (any_of HT_.out (by kernel_rfl)) (fun _ _ _ h => h) (Or.inl ⟨by rfl, ?_⟩) ?_ ?_
                    rotate_left
                    · intro w'
                      go_simp
                      with_reducible rfl
                    rotate_left
                    · simp only [Act.put, List.setIfInBounds_toArray, List.set_cons_zero, List.set_cons_succ, i64_w, i32_w]
                      rfl
                    refine take_ (i := 9) (N := some 53) (v := ?_) (a' := ?_) #[true, true, true, true, true, true, true, true, true, true, false] rfl rfl (take_ofW HT_.out HW_.out (by kernel_rfl)) (fun _ _ _ h => h) (Or.inl ⟨by rfl, ?_⟩) hHeld ?_ ?_
                    rotate_left
                    · rintro w' ⟨s0, s1, s2, s3, s4, s5, s6, s7, s8, s9⟩
                      go_simp
                      with_reducible rfl
                    rotate_left
                    · simp only [Act.put, List.setIfInBounds_toArray, List.set_cons_zero, List.set_cons_succ, i64_w, i32_w]
                      rfl
                    refine pure_ (i := 10) (N := some 54) (v := ?_) (a' := ?_) #[true, true, true, true, true, true, true, true, true, true, true] rfl rfl (any_of HT_.out (by kernel_rfl)) (fun _ _ _ h => h) (Or.inl ⟨by rfl, ?_⟩) ?_ ?_
                    rotate_left
                    · intro w'
                      go_simp
                      with_reducible rfl
                    rotate_left
                    · simp only [Act.put, List.setIfInBounds_toArray, List.set_cons_zero, List.set_cons_succ, i64_w, i32_w]
                      rfl
                    refine done_ (done_of HT_.out (by kernel_rfl)) ?_
                    try go_wp2
                    go_roundg k2
                    case measure => have := HJ2.out; have := HK2.out; omega
                    case rel => exact ⟨(wrap64 (x5_2 + 1)), (by first | rfl | (simp; done) | (simp [*]; done)), H', ⟨by have := HJ2.out; have := HK2.out; omega⟩, ⟨by (with_reducible repeat (first | refine blk_drewN ?_ _ | refine blk_drew ?_ | refine blk_alloc ?_ _)); exact BK491.out⟩, ⟨by (with_reducible repeat (first | refine blk_drewN ?_ _ | refine blk_drew ?_ | refine blk_alloc ?_ _)); exact BK492.out⟩, ⟨by repeat (first | (with_reducible first | exact HB.out | apply below_alloc | apply pw_below_drewN | apply below_drew1 | refine below_set ?_ GE491.out | refine below_set ?_ GE492.out) | exact HB.out)⟩⟩
                  · rw [if_neg c25] at H
                    have c25b0 : ((rdOf ByteArray.empty l0_2 x5_2).toList == (rdOf ByteArray.empty l1_2 x5_2).toList) = false := beq_eq_false_iff_ne.mpr c25
                    have c25b1 : ((rdOf ByteArray.empty l0_2 x5_2).toList != (rdOf ByteArray.empty l1_2 x5_2).toList) = true := bne_iff_ne.mpr c25
                    cases H
                · rw [if_neg c24] at H
                  exact absurd H (by simp)
              · rw [if_neg c23] at H
                exact absurd H (by simp)
            · rw [if_neg c22] at H
              have c22b0 : decide (x5_2 < (l0_2.length : Int)) = false := decide_eq_false c22
              clear c22
              have H' := Aside0.mk H
              clear H
              have hnb32 := NB491_492.out
              have hnc32 := NB492_491.out
              have hcz33_0 : wr.cell? ⟨gb491, 0, none⟩ = some (.int .i64 a0_0) := (blk_cell BK491.out 0).trans rfl
              have hcz33_1 : wr.cell? ⟨gb491, 1, none⟩ = some (.string a0_1) := (blk_cell BK491.out 1).trans rfl
              have hcz33_2 : wr.cell? ⟨gb491, 2, none⟩ = some (.slice A0_2 l0_2.length c0_2) := (blk_cell BK491.out 2).trans rfl
              have hcz33_3 : wr.cell? ⟨gb491, 3, none⟩ = some (.slice A0_3 l0_3.length c0_3) := (blk_cell BK491.out 3).trans rfl
              have hfz33_0 := blk_frozen BK491.out 0
              have hfz33_1 := blk_frozen BK491.out 1
              have hfz33_2 := blk_frozen BK491.out 2
              have hfz33_3 := blk_frozen BK491.out 3
              go_wp2
              go_loopg [6] k2 (fun kq v6 w' => ∃ (x6_3 : Int), v6 = .int .i64 x6_3 ∧ Aside0 (wicketref04_Equal.l1 kq x6_3 a0_0 a0_1 l0_2 l0_3 a1_0 a1_1 l1_2 l1_3 = some r) ∧ Aside0 (kq ≤ k2) ∧ Aside0 (w'.heap[gb491]? = some (.cells #[.int .i64 a0_0, .string a0_1, (.slice A0_2 l0_2.length c0_2), (.slice A0_3 l0_3.length c0_3)] 25 (0, 0))) ∧ Aside0 (w'.heap[gb492]? = some (.cells #[.int .i64 a1_0, .string a1_1, (.slice A1_2 l1_2.length c1_2), (.slice A1_3 l1_3.length c1_3)] 25 (0, 0))) ∧ Aside0 (Below w.heap.size w w'))
              case atStart => exact ⟨(0), (by first | rfl | (simp; done) | (simp [*]; done)), H', ⟨Nat.le_refl _⟩, ⟨by (with_reducible repeat (first | refine blk_drewN ?_ _ | refine blk_drew ?_ | refine blk_alloc ?_ _)); exact BK491.out⟩, ⟨by (with_reducible repeat (first | refine blk_drewN ?_ _ | refine blk_drew ?_ | refine blk_alloc ?_ _)); exact BK492.out⟩, ⟨by repeat (first | (with_reducible first | exact HB.out | apply below_alloc | apply pw_below_drewN | apply below_drew1 | refine below_set ?_ GE491.out | refine below_set ?_ GE492.out) | exact HB.out)⟩⟩
              case round =>
                clear H'
                try clear c1
                try clear c2
                try clear p2
                try clear c3
                try clear p4
                try clear q4
                try clear hx4
                try clear c6
                try clear c6b0
                try clear c6b1
                try clear p6
                try clear c7
                try clear c7b0
                try clear c7b1
                try clear c8
                try clear c8b0
                try clear c8b1
                try clear c8b2
                try clear c9
                try clear c12
                try clear c15
                try clear c18
                try clear c21
                try clear c22
                try clear c22b0
                try clear c23
                try clear c23b0
                try clear c24
                try clear c24b0
                try clear c25
                try clear c25b0
                try clear c25b1
                try clear c26
                try clear c29
                try clear c32
                try clear hcz10_0
                try clear hcz10_1
                try clear hcz10_2
                try clear hcz10_3
                try clear hcz11_0
                try clear hcz11_1
                try clear hcz11_2
                try clear hcz11_3
                try clear hcz13_0
                try clear hcz13_1
                try clear hcz13_2
                try clear hcz13_3
                try clear hcz14_0
                try clear hcz14_1
                try clear hcz14_2
                try clear hcz14_3
                try clear hcz16_0
                try clear hcz16_1
                try clear hcz16_2
                try clear hcz16_3
                try clear hcz17_0
                try clear hcz17_1
                try clear hcz17_2
                try clear hcz17_3
                try clear hcz19_0
                try clear hcz19_1
                try clear hcz19_2
                try clear hcz19_3
                try clear hcz20_0
                try clear hcz20_1
                try clear hcz20_2
                try clear hcz20_3
                try clear hcz27_0
                try clear hcz27_1
                try clear hcz27_2
                try clear hcz27_3
                try clear hcz30_0
                try clear hcz30_1
                try clear hcz30_2
                try clear hcz30_3
                try clear hcz33_0
                try clear hcz33_1
                try clear hcz33_2
                try clear hcz33_3
                try clear hfz10_0
                try clear hfz10_1
                try clear hfz10_2
                try clear hfz10_3
                try clear hfz11_0
                try clear hfz11_1
                try clear hfz11_2
                try clear hfz11_3
                try clear hfz13_0
                try clear hfz13_1
                try clear hfz13_2
                try clear hfz13_3
                try clear hfz14_0
                try clear hfz14_1
                try clear hfz14_2
                try clear hfz14_3
                try clear hfz16_0
                try clear hfz16_1
                try clear hfz16_2
                try clear hfz16_3
                try clear hfz17_0
                try clear hfz17_1
                try clear hfz17_2
                try clear hfz17_3
                try clear hfz19_0
                try clear hfz19_1
                try clear hfz19_2
                try clear hfz19_3
                try clear hfz20_0
                try clear hfz20_1
                try clear hfz20_2
                try clear hfz20_3
                try clear hfz27_0
                try clear hfz27_1
                try clear hfz27_2
                try clear hfz27_3
                try clear hfz30_0
                try clear hfz30_1
                try clear hfz30_2
                try clear hfz30_3
                try clear hfz33_0
                try clear hfz33_1
                try clear hfz33_2
                try clear hfz33_3
                try clear hx493_0
                try clear hx494_0
                try clear p2
                try clear p493
                try clear p494
                try clear q493
                try clear q494
                obtain ⟨x6_3, rfl, HA, HK3, BK491, BK492, HB⟩ := hrel
                cases gk with
                | zero => exact absurd HA.out (by simp [wicketref04_Equal.l1])
                | succ k3 =>
                  have H := HA.out
                  clear HA
                  simp only [wicketref04_Equal.l1] at H
                  by_cases c34 : x6_3 < (l0_3.length : Int)
                  · rw [if_pos c34] at H
                    have c34b0 : decide (x6_3 < (l0_3.length : Int)) = true := decide_eq_true c34
                    clear c34
                    by_cases c35 : 0 ≤ x6_3
                    · rw [if_pos c35] at H
                      have c35b0 : decide (0 ≤ x6_3) = true := decide_eq_true c35
                      clear c35
                      by_cases c36 : x6_3 < (l1_3.length : Int)
                      · rw [if_pos c36] at H
                        have c36b0 : decide (x6_3 < (l1_3.length : Int)) = true := decide_eq_true c36
                        clear c36
                        replace H := Option.bind_eq_some_iff.mp H
                        obtain ⟨t497, A370, H⟩ := H
                        replace H : (if t497 = true then (wicketref04_Equal.l1 k3 (wrap64 (x6_3 + 1)) a0_0 a0_1 l0_2 l0_3 a1_0 a1_1 l1_2 l1_3) else none) = some r := H
                        have A37 := Aside0.mk A370
                        clear A370
                        by_cases c38 : t497 = true
                        · subst c38
                          have H1 : (wicketref04_Equal.l1 k3 (wrap64 (x6_3 + 1)) a0_0 a0_1 l0_2 l0_3 a1_0 a1_1 l1_2 l1_3) = some r := by rw [if_pos rfl] at H; exact H
                          clear H
                          have H := H1
                          clear H1
                          have H' := Aside0.mk H
                          clear H
                          have hnb39 := NB491_492.out
                          have hnc39 := NB492_491.out
                          have hcz40_0 : wr.cell? ⟨gb491, 0, none⟩ = some (.int .i64 a0_0) := (blk_cell BK491.out 0).trans rfl
                          have hcz40_1 : wr.cell? ⟨gb491, 1, none⟩ = some (.string a0_1) := (blk_cell BK491.out 1).trans rfl
                          have hcz40_2 : wr.cell? ⟨gb491, 2, none⟩ = some (.slice A0_2 l0_2.length c0_2) := (blk_cell BK491.out 2).trans rfl
                          have hcz40_3 : wr.cell? ⟨gb491, 3, none⟩ = some (.slice A0_3 l0_3.length c0_3) := (blk_cell BK491.out 3).trans rfl
                          have hfz40_0 := blk_frozen BK491.out 0
                          have hfz40_1 := blk_frozen BK491.out 1
                          have hfz40_2 := blk_frozen BK491.out 2
                          have hfz40_3 := blk_frozen BK491.out 3
                          try go_wp2
                          have n0_ := Aside0.mk (blk_drew BK491.out)
                          have n1_ := Aside0.mk (blk_drew BK492.out)
                          have n2_ := Aside0.mk (below_drew1 HB.out)
                          clear BK491
                          clear BK492
                          clear HB
                          have BK491 := n0_
                          have BK492 := n1_
                          have HB := n2_
                          clear n0_ n1_ n2_
                          have p495 : 0 ≤ (x6_3 : Int) := of_decide_eq_true (by first | (with_reducible assumption) | assumption)
                          have q495 : x6_3 < (l0_3.length : Int) := of_decide_eq_true (by first | (with_reducible assumption) | assumption)
                          obtain ⟨ad495, A495_2, c495_2, A495_3, c495_3, e495, hx495_0, hx495_1, hx495_2, hx495_3, hl495_2, hi495_2, hl495_3, hi495_3⟩ := at_T25 HR0_3.out x6_3 p495 q495
                          have hw495_3 := hx495_3
                          have hw495_2 := hx495_2
                          have hw495_1 := hx495_1
                          have hw495_0 := hx495_0
                          cases e495
                          replace hx495_0 := (HB.out.cell (World.block_lt_of_cell? w _ hx495_0)).trans hx495_0
                          replace hx495_1 := (HB.out.cell (World.block_lt_of_cell? w _ hx495_1)).trans hx495_1
                          replace hx495_2 := (HB.out.cell (World.block_lt_of_cell? w _ hx495_2)).trans hx495_2
                          replace hx495_3 := (HB.out.cell (World.block_lt_of_cell? w _ hx495_3)).trans hx495_3
                          have HR495_2 := Aside0.mk hi495_2
                          have HC495_2 := Aside0.mk hl495_2
                          clear hi495_2 hl495_2
                          have HR495_3 := Aside0.mk hi495_3
                          have HC495_3 := Aside0.mk hl495_3
                          clear hi495_3 hl495_3
                          replace p495 := eq_true p495
                          replace q495 := eq_true q495
                          have p496 : 0 ≤ (x6_3 : Int) := of_decide_eq_true (by first | (with_reducible assumption) | assumption)
                          have q496 : x6_3 < (l1_3.length : Int) := of_decide_eq_true (by first | (with_reducible assumption) | assumption)
                          obtain ⟨ad496, A496_2, c496_2, A496_3, c496_3, e496, hx496_0, hx496_1, hx496_2, hx496_3, hl496_2, hi496_2, hl496_3, hi496_3⟩ := at_T25 HR1_3.out x6_3 p496 q496
                          have hw496_3 := hx496_3
                          have hw496_2 := hx496_2
                          have hw496_1 := hx496_1
                          have hw496_0 := hx496_0
                          cases e496
                          replace hx496_0 := (HB.out.cell (World.block_lt_of_cell? w _ hx496_0)).trans hx496_0
                          replace hx496_1 := (HB.out.cell (World.block_lt_of_cell? w _ hx496_1)).trans hx496_1
                          replace hx496_2 := (HB.out.cell (World.block_lt_of_cell? w _ hx496_2)).trans hx496_2
                          replace hx496_3 := (HB.out.cell (World.block_lt_of_cell? w _ hx496_3)).trans hx496_3
                          have HR496_2 := Aside0.mk hi496_2
                          have HC496_2 := Aside0.mk hl496_2
                          clear hi496_2 hl496_2
                          have HR496_3 := Aside0.mk hi496_3
                          have HC496_3 := Aside0.mk hl496_3
                          clear hi496_3 hl496_3
                          replace p496 := eq_true p496
                          replace q496 := eq_true q496
                          refine start_ (n := 12) (S := fun w' => w'.cell? ⟨gb491, 0, none⟩ = some (.int .i64 a0_0) ∧ w'.cell? ⟨gb491, 1, none⟩ = some (.string a0_1) ∧ w'.cell? ⟨gb491, 2, none⟩ = some (.slice A0_2 l0_2.length c0_2) ∧ w'.cell? ⟨gb491, 3, none⟩ = some (.slice (some ad495) l0_3.length c0_3) ∧ w'.cell? ⟨gb492, 0, none⟩ = some (.int .i64 a1_0) ∧ w'.cell? ⟨gb492, 1, none⟩ = some (.string a1_1) ∧ w'.cell? ⟨gb492, 2, none⟩ = some (.slice A1_2 l1_2.length c1_2) ∧ w'.cell? ⟨gb492, 3, none⟩ = some (.slice (some ad496) l1_3.length c1_3) ∧ w'.cell? (ad495.add ((x6_3).toNat * 4)) = some (.int .i64 ((rd_T25 l0_3 x6_3).f0)) ∧ w'.cell? ⟨(ad495.add ((x6_3).toNat * 4)).block, (ad495.add ((x6_3).toNat * 4)).off + 1, none⟩ = some (.string ((rd_T25 l0_3 x6_3).f1)) ∧ w'.cell? ⟨(ad495.add ((x6_3).toNat * 4)).block, (ad495.add ((x6_3).toNat * 4)).off + 2, none⟩ = some (.slice A495_2 ((rd_T25 l0_3 x6_3).f2).length c495_2) ∧ w'.cell? ⟨(ad495.add ((x6_3).toNat * 4)).block, (ad495.add ((x6_3).toNat * 4)).off + 3, none⟩ = some (.slice A495_3 ((rd_T25 l0_3 x6_3).f3).length c495_3) ∧ w'.cell? (ad496.add ((x6_3).toNat * 4)) = some (.int .i64 ((rd_T25 l1_3 x6_3).f0)) ∧ w'.cell? ⟨(ad496.add ((x6_3).toNat * 4)).block, (ad496.add ((x6_3).toNat * 4)).off + 1, none⟩ = some (.string ((rd_T25 l1_3 x6_3).f1)) ∧ w'.cell? ⟨(ad496.add ((x6_3).toNat * 4)).block, (ad496.add ((x6_3).toNat * 4)).off + 2, none⟩ = some (.slice A496_2 ((rd_T25 l1_3 x6_3).f2).length c496_2) ∧ w'.cell? ⟨(ad496.add ((x6_3).toNat * 4)).block, (ad496.add ((x6_3).toNat * 4)).off + 3, none⟩ = some (.slice A496_3 ((rd_T25 l1_3 x6_3).f3).length c496_3)) (ds := []) #[false, false, false, false, false, false, false, false, false, false, false, false] (by kernel_rfl) rfl rfl ⟨(blk_cell BK491.out 0).trans rfl, (blk_cell BK491.out 1).trans rfl, (blk_cell BK491.out 2).trans rfl, (blk_cell BK491.out 3).trans rfl, (blk_cell BK492.out 0).trans rfl, (blk_cell BK492.out 1).trans rfl, (blk_cell BK492.out 2).trans rfl, (blk_cell BK492.out 3).trans rfl, ((HB.out.cell (World.block_lt_of_cell? w _ hw495_0)).trans hw495_0), ((HB.out.cell (World.block_lt_of_cell? w _ hw495_1)).trans hw495_1), ((HB.out.cell (World.block_lt_of_cell? w _ hw495_2)).trans hw495_2), ((HB.out.cell (World.block_lt_of_cell? w _ hw495_3)).trans hw495_3), ((HB.out.cell (World.block_lt_of_cell? w _ hw496_0)).trans hw496_0), ((HB.out.cell (World.block_lt_of_cell? w _ hw496_1)).trans hw496_1), ((HB.out.cell (World.block_lt_of_cell? w _ hw496_2)).trans hw496_2), ((HB.out.cell (World.block_lt_of_cell? w _ hw496_3)).trans hw496_3)⟩ (fun hHeld => ?_); refine with_tabW wicketref04_Equal.tab11 wicketref04_Equal.bits11 (fun HT_ HW_ => ?_)
                          generalize wr.drew = w41 at BK491 BK492 HB HR495_2 HR495_3 HR496_2 HR496_3 hx495_0 hx495_1 hx495_2 hx495_3 hx496_0 hx496_1 hx496_2 hx496_3 hHeld ⊢
                          refine pure_ (i := 0) (N := some 62) (v := ?_) (a' := ?_) #[true, false, false, false, false, false, false, false, false, false, false, false] rfl rfl (any_of HT_.out (by kernel_rfl)) (fun _ _ _ h => h) (Or.inl ⟨by rfl, ?_⟩) ?_ ?_
                          rotate_left
                          · intro w'
                            go_simp
                            with_reducible rfl
                          rotate_left
                          · simp only [Act.put, List.setIfInBounds_toArray, List.set_cons_zero, List.set_cons_succ, i64_w, i32_w]
                            rfl
                          refine pure_ (i := 2) (N := some 64) (v := ?_) (a' := ?_) #[true, false, true, false, false, false, false, false, false, false, false, false] rfl rfl (any_of HT_.out (by kernel_rfl)) (fun _ _ _ h => h) (Or.inl ⟨by rfl, ?_⟩) ?_ ?_
                          rotate_left
                          · intro w'
                            go_simp
                            with_reducible rfl
                          rotate_left
                          · simp only [Act.put, List.setIfInBounds_toArray, List.set_cons_zero, List.set_cons_succ, i64_w, i32_w]
                            rfl
                          refine pure_ (i := 5) (N := some 67) (v := ?_) (a' := ?_) #[true, false, true, false, false, true, false, false, false, false, false, false] rfl rfl (any_of HT_.out (by kernel_rfl)) (fun _ _ _ h => h) (Or.inl ⟨by rfl, ?_⟩) ?_ ?_
                          rotate_left
                          · intro w'
                            go_simp
                            with_reducible rfl
                          rotate_left
                          · simp only [Act.put, List.setIfInBounds_toArray, List.set_cons_zero, List.set_cons_succ, i64_w, i32_w]
                            rfl
                          refine pure_ (i := 7) (N := some 69) (v := ?_) (a' := ?_) #[true, false, true, false, false, true, false, true, false, false, false, false] rfl rfl (any_of HT_.out (by kernel_rfl)) (fun _ _ _ h => h) (Or.inl ⟨by rfl, ?_⟩) ?_ ?_
                          rotate_left
                          · intro w'
                            go_simp
                            with_reducible rfl
                          rotate_left
                          · simp only [Act.put, List.setIfInBounds_toArray, List.set_cons_zero, List.set_cons_succ, i64_w, i32_w]
                            rfl
                          refine take_ (i := 1) (N := some 63) (v := ?_) (a' := ?_) #[true, true, true, false, false, true, false, true, false, false, false, false] rfl rfl (take_ofW HT_.out HW_.out (by kernel_rfl)) (fun _ _ _ h => h) (Or.inl ⟨by rfl, ?_⟩) hHeld ?_ ?_
                          rotate_left
                          · rintro w' ⟨s0, s1, s2, s3, s4, s5, s6, s7, s8, s9, s10, s11, s12, s13, s14, s15⟩
                            go_simp
                            with_reducible rfl
                          rotate_left
                          · simp only [Act.put, List.setIfInBounds_toArray, List.set_cons_zero, List.set_cons_succ, i64_w, i32_w]
                            rfl
                          refine pure_ (i := 3) (N := some 65) (v := ?_) (a' := ?_) #[true, true, true, true, false, true, false, true, false, false, false, false] rfl rfl (any_of HT_.out (by kernel_rfl)) (fun _ _ _ h => h) (Or.inl ⟨by rfl, ?_⟩) ?_ ?_
                          rotate_left
                          · intro w'
                            go_simp
                            with_reducible rfl
                          rotate_left
                          · simp only [Act.put, List.setIfInBounds_toArray, List.set_cons_zero, List.set_cons_succ, i64_w, i32_w]
                            rfl
                          refine take_ (i := 4) (N := some 66) (v := ?_) (a' := ?_) #[true, true, true, true, true, true, false, true, false, false, false, false] rfl rfl (take_ofW HT_.out HW_.out (by kernel_rfl)) (fun _ _ _ h => h) (Or.inl ⟨by rfl, ?_⟩) hHeld ?_ ?_
                          rotate_left
                          · rintro w' ⟨s0, s1, s2, s3, s4, s5, s6, s7, s8, s9, s10, s11, s12, s13, s14, s15⟩
                            go_simp
                            with_reducible rfl
                          rotate_left
                          · simp only [Act.put, List.setIfInBounds_toArray, List.set_cons_zero, List.set_cons_succ, i64_w, i32_w]
                            rfl
                          refine take_ (i := 6) (N := some 68) (v := ?_) (a' := ?_) #[true, true, true, true, true, true, true, true, false, false, false, false] rfl rfl (take_ofW HT_.out HW_.out (by kernel_rfl)) (fun _ _ _ h => h) (Or.inl ⟨by rfl, ?_⟩) hHeld ?_ ?_
                          rotate_left
                          · rintro w' ⟨s0, s1, s2, s3, s4, s5, s6, s7, s8, s9, s10, s11, s12, s13, s14, s15⟩
                            go_simp
                            with_reducible rfl
                          rotate_left
                          · simp only [Act.put, List.setIfInBounds_toArray, List.set_cons_zero, List.set_cons_succ, i64_w, i32_w]
                            rfl
                          refine pure_ (i := 8) (N := some 70) (v := ?_) (a' := ?_) #[true, true, true, true, true, true, true, true, true, false, false, false] rfl rfl (any_of HT_.out (by kernel_rfl)) (fun _ _ _ h => h) (Or.inl ⟨by rfl, ?_⟩) ?_ ?_
                          rotate_left
                          · intro w'
                            go_simp
                            with_reducible rfl
                          rotate_left
                          · simp only [Act.put, List.setIfInBounds_toArray, List.set_cons_zero, List.set_cons_succ, i64_w, i32_w]
                            rfl
                          refine take_ (i := 9) (N := some 71) (v := ?_) (a' := ?_) #[true, true, true, true, true, true, true, true, true, true, false, false] rfl rfl (take_ofW HT_.out HW_.out (by kernel_rfl)) (fun _ _ _ h => h) (Or.inl ⟨by rfl, ?_⟩) hHeld ?_ ?_
                          rotate_left
                          · rintro w' ⟨s0, s1, s2, s3, s4, s5, s6, s7, s8, s9, s10, s11, s12, s13, s14, s15⟩
                            go_simp
                            with_reducible rfl
                          rotate_left
                          · simp only [Act.put, List.setIfInBounds_toArray, List.set_cons_zero, List.set_cons_succ, i64_w, i32_w]
                            rfl
                          refine one_ (i := 10) (N := some 72) #[true, true, true, true, true, true, true, true, true, true, true, false] rfl rfl (one_of HT_.out (by kernel_rfl)) (by decide) (fun K hK => ?_)
                          refine goes_ Tryd.func15 (by kernel_rfl) rfl #[.agg #[.int .i64 ((rd_T25 l0_3 x6_3).f0), .string ((rd_T25 l0_3 x6_3).f1), .slice A495_2 ((rd_T25 l0_3 x6_3).f2).length c495_2, .slice A495_3 ((rd_T25 l0_3 x6_3).f3).length c495_3], .agg #[.int .i64 ((rd_T25 l1_3 x6_3).f0), .string ((rd_T25 l1_3 x6_3).f1), .slice A496_2 ((rd_T25 l1_3 x6_3).f2).length c496_2, .slice A496_3 ((rd_T25 l1_3 x6_3).f3).length c496_3]] (by rfl) rfl rfl (by (try simp only [List.map_toArray, List.map_cons, List.map_nil]); first | done | rfl | (simp only [List.length_drop, List.length_take]; rfl)) ?_
                          with_reducible refine (ih k3 (by have := HJ2.out; have := HK2.out; have := HK3.out; omega) ((rd_T25 l0_3 x6_3).f0) ((rd_T25 l0_3 x6_3).f1) _ _ ((rd_T25 l0_3 x6_3).f2) _ _ ((rd_T25 l0_3 x6_3).f3) ((rd_T25 l1_3 x6_3).f0) ((rd_T25 l1_3 x6_3).f1) _ _ ((rd_T25 l1_3 x6_3).f2) _ _ ((rd_T25 l1_3 x6_3).f3) true _ ?side1 ?side2 ?side3 ?side4 ?side5 ?side6 ?side7 ?side8 A37.out).mono ?_
                          (case side1 => repeat (first | exact (Kd.C_below HR495_2.out HB.out) | (with_reducible refine Kd.C_alloc ?_ _) | (with_reducible refine Kd.C_drewN ?_ _) | (with_reducible refine Kd.C_drew ?_)))
                          (case side2 => exact HC495_2.out)
                          (case side3 => repeat (first | exact (Kd.C_below HR495_3.out HB.out) | (with_reducible refine Kd.C_alloc ?_ _) | (with_reducible refine Kd.C_drewN ?_ _) | (with_reducible refine Kd.C_drew ?_)))
                          (case side4 => exact HC495_3.out)
                          (case side5 => repeat (first | exact (Kd.C_below HR496_2.out HB.out) | (with_reducible refine Kd.C_alloc ?_ _) | (with_reducible refine Kd.C_drewN ?_ _) | (with_reducible refine Kd.C_drew ?_)))
                          (case side6 => exact HC496_2.out)
                          (case side7 => repeat (first | exact (Kd.C_below HR496_3.out HB.out) | (with_reducible refine Kd.C_alloc ?_ _) | (with_reducible refine Kd.C_drewN ?_ _) | (with_reducible refine Kd.C_drew ?_)))
                          (case side8 => exact HC496_3.out)
                          rintro e w42 ⟨rfl, hb⟩
                          refine ⟨_, rfl, ?_⟩
                          have n0_ := Aside0.mk (blk_below (g := gb491) (o := .cells #[.int .i64 a0_0, .string a0_1, .slice A0_2 l0_2.length c0_2, .slice (some ad495) l0_3.length c0_3] 25 (0, 0)) (by (with_reducible repeat (first | refine blk_drewN ?_ _ | refine blk_drew ?_ | refine blk_alloc ?_ _)); exact BK491.out) hb)
                          have n1_ := Aside0.mk (blk_below (g := gb492) (o := .cells #[.int .i64 a1_0, .string a1_1, .slice A1_2 l1_2.length c1_2, .slice (some ad496) l1_3.length c1_3] 25 (0, 0)) (by (with_reducible repeat (first | refine blk_drewN ?_ _ | refine blk_drew ?_ | refine blk_alloc ?_ _)); exact BK492.out) hb)
                          have n2_ := Aside0.mk (below_step (by repeat (first | (with_reducible first | exact HB.out | apply below_alloc | apply pw_below_drewN | apply below_drew1 | refine below_set ?_ GE491.out | refine below_set ?_ GE492.out) | exact HB.out)) hb)
                          clear BK491
                          clear BK492
                          clear HB
                          have BK491 := n0_
                          have BK492 := n1_
                          have HB := n2_
                          clear n0_ n1_ n2_
                          (try clear hb)
                          (try clear hb2)
                          (try clear hk)
                          (try clear hi)
                          refine hK.out _ _ ⟨(blk_cell BK491.out 0).trans rfl, (blk_cell BK491.out 1).trans rfl, (blk_cell BK491.out 2).trans rfl, (blk_cell BK491.out 3).trans rfl, (blk_cell BK492.out 0).trans rfl, (blk_cell BK492.out 1).trans rfl, (blk_cell BK492.out 2).trans rfl, (blk_cell BK492.out 3).trans rfl, ((HB.out.cell (World.block_lt_of_cell? w _ hw495_0)).trans hw495_0), ((HB.out.cell (World.block_lt_of_cell? w _ hw495_1)).trans hw495_1), ((HB.out.cell (World.block_lt_of_cell? w _ hw495_2)).trans hw495_2), ((HB.out.cell (World.block_lt_of_cell? w _ hw495_3)).trans hw495_3), ((HB.out.cell (World.block_lt_of_cell? w _ hw496_0)).trans hw496_0), ((HB.out.cell (World.block_lt_of_cell? w _ hw496_1)).trans hw496_1), ((HB.out.cell (World.block_lt_of_cell? w _ hw496_2)).trans hw496_2), ((HB.out.cell (World.block_lt_of_cell? w _ hw496_3)).trans hw496_3)⟩ (fun hHeld => ?_)
                          clear hK K
                          refine norm_ (a' := ?_) ?_ ?_
                          rotate_left
                          · show Act.put _ (some 72) _ = _
                            simp only [Act.put, List.setIfInBounds_toArray, List.set_cons_zero, List.set_cons_succ, i64_w, i32_w]
                            rfl
                          refine pure_ (i := 11) (N := some 73) (v := ?_) (a' := ?_) #[true, true, true, true, true, true, true, true, true, true, true, true] rfl rfl (any_of HT_.out (by kernel_rfl)) (fun _ _ _ h => h) (Or.inl ⟨by rfl, ?_⟩) ?_ ?_
                          rotate_left
                          · intro w'
                            go_simp
                            with_reducible rfl
                          rotate_left
                          · simp only [Act.put, List.setIfInBounds_toArray, List.set_cons_zero, List.set_cons_succ, i64_w, i32_w]
                            rfl
                          refine done_ (done_of HT_.out (by kernel_rfl)) ?_
                          try go_wp2
                          go_roundg k3
                          case measure => have := HJ2.out; have := HK2.out; have := HK3.out; omega
                          case rel => exact ⟨(wrap64 (x6_3 + 1)), (by first | rfl | (simp; done) | (simp [*]; done)), H', ⟨by have := HJ2.out; have := HK2.out; have := HK3.out; omega⟩, ⟨by (with_reducible repeat (first | refine blk_drewN ?_ _ | refine blk_drew ?_ | refine blk_alloc ?_ _)); exact BK491.out⟩, ⟨by (with_reducible repeat (first | refine blk_drewN ?_ _ | refine blk_drew ?_ | refine blk_alloc ?_ _)); exact BK492.out⟩, ⟨by repeat (first | (with_reducible first | exact HB.out | apply below_alloc | apply pw_below_drewN | apply below_drew1 | refine below_set ?_ GE491.out | refine below_set ?_ GE492.out) | exact HB.out)⟩⟩
                        · replace c38 := Bool.eq_false_iff.mpr c38
                          subst c38
                          have H1 : none = some r := by rw [if_neg (show ¬ (false = true) by decide)] at H; exact H
                          clear H
                          have H := H1
                          clear H1
                          cases H
                      · rw [if_neg c36] at H
                        exact absurd H (by simp)
                    · rw [if_neg c35] at H
                      exact absurd H (by simp)
                  · rw [if_neg c34] at H
                    have c34b0 : decide (x6_3 < (l0_3.length : Int)) = false := decide_eq_false c34
                    clear c34
                    obtain rfl := Option.some.inj H
                    have hnb47 := NB491_492.out
                    have hnc47 := NB492_491.out
                    have hcz48_0 : wr.cell? ⟨gb491, 0, none⟩ = some (.int .i64 a0_0) := (blk_cell BK491.out 0).trans rfl
                    have hcz48_1 : wr.cell? ⟨gb491, 1, none⟩ = some (.string a0_1) := (blk_cell BK491.out 1).trans rfl
                    have hcz48_2 : wr.cell? ⟨gb491, 2, none⟩ = some (.slice A0_2 l0_2.length c0_2) := (blk_cell BK491.out 2).trans rfl
                    have hcz48_3 : wr.cell? ⟨gb491, 3, none⟩ = some (.slice A0_3 l0_3.length c0_3) := (blk_cell BK491.out 3).trans rfl
                    have hfz48_0 := blk_frozen BK491.out 0
                    have hfz48_1 := blk_frozen BK491.out 1
                    have hfz48_2 := blk_frozen BK491.out 2
                    have hfz48_3 := blk_frozen BK491.out 3
                    go_wp2
                    go_ret
                    exact ⟨by first | rfl | (simp [errW_none, errW_some] <;> rfl) | (simp [*, errW_none, errW_some] <;> rfl), by repeat (first | (with_reducible first | exact HB.out | apply below_alloc | apply pw_below_drewN | apply below_drew1 | refine below_set ?_ GE491.out | refine below_set ?_ GE492.out) | exact HB.out)⟩
end Go.Proofs.YtaalajhmfdcalaaDoor.X
