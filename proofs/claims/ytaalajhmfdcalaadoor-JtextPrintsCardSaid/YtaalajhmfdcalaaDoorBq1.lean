/- The texts of this work, put together: K10, K11, K12, M1, M2, M3, M7, K13, K14, K15, K16, K17, K18, K19, K20. -/
import Derived.Test.YtaalajhmfdcalaaDoorBq0
import Derived.Maps.Views
import Derived.Maps.OwnOps
set_option linter.unusedVariables false
set_option linter.unusedSimpArgs false
namespace Go.Proofs.YtaalajhmfdcalaaDoor.X
open Go.RowKit Go.Lib Go.Proofs.YtaalajhmfdcalaaDoorW.PrintWords Go.Proofs.YtaalajhmfdcalaaDoorW.PrintLast Go.Proofs.YtaalajhmfdcalaaDoorW.PrintMore
theorem Own.set {B R : Nat} {W : World} {v : Value} {l : List UInt8} (h : Own B W v l) (hRB : R < B) (k : Nat) (u : Value) : Own B (W.setCell ⟨R, k, none⟩ u) v l :=
 h.on hRB ((On.refl R W).set k u)
theorem Own.drawn {B : Nat} {W W' : World} {v : Value} {l : List UInt8} (h : Own B W v l) (hd : Drawn0 W W') : Own B W' v l := by
 obtain ⟨n, rfl⟩ := hd
 exact h
theorem strCells_cellsOf (s : ByteArray) : strCells s = cellsOf s.data.toList := rfl
theorem Own.one {P : Program} {ops : Array Oper} {rest : List Oper} {o : Oper} {a : Act} {Q : Exit → Act → World → Prop} {B : Nat} {W : World} (hgd : o.guard = none) (s x : Operand) (t : TypeId)
  (ho : o.op = .call { callee := .builtin .append, args := #[s, x], argTypes := #[t, t] }) (ht : P.underlying t = some (.slice 5)) (hinfo : (P.info? 5).map (fun i => (i.zero, i.size, i.bytes)) = some (some (.int .u8 0), 1, 1))
  (v : Value) (l : List UInt8) (c : UInt8) (hs : a.eval s = v) (hx : a.eval x = .slice (some ⟨W.heap.size, 0, none⟩) 1 1) (HO : Own B W v l) (hl : l.length ≤ 100000000000)
  (h : ∀ v1 w1, Own B w1 v1 (l ++ [c]) → W.grownBy w1 v.ownBlock → wpList P ops Q rest (a.put o.dst v1) w1) :
  wpList P ops Q (o :: rest) a (W.alloc (.cells #[.int .u8 c.toNat] 5)) := by
 refine print_append (w0 := W) B hgd s x t 5 (.int .u8 0) 1 ho ht hinfo rfl (by decide) v (cellsOf l) (.int .u8 c.toNat) hs hx rfl (by rw [cellsOf_length]; exact HO.1) (Below.refl _ _) HO.2 (by rw [cellsOf_length]; omega) (fun v1 w1 h1 _ hg _ => ?_)
 refine h v1 w1 ⟨?_, Nat.le_trans HO.2 hg.size⟩ hg
 have e : cellsOf l ++ [Value.int .u8 c.toNat] = cellsOf (l ++ [c]) := by rw [cellsOf_append]; rfl
 rw [e, cellsOf_length] at h1
 exact h1
theorem On.grown' {R B : Nat} {W W1 W2 : World} (h : On R W W1) {v : Value} {l : List UInt8} (ho : Own B W1 v l) (hB : W.heap.size ≤ B) (hRW : R ≤ W.heap.size) (o : Obj) (hg : (W1.alloc o).grownBy W2 v.ownBlock) : On R W W2 :=
 h.grown ho hB hRW (World.grownBy.trans (World.grownBy_alloc W1 _ _) hg)
theorem RdB.grown' {R B : Nat} {s : ByteArray} {p : Int} {W W' : World} {v : Value} {l : List UInt8} (h : RdB R s p W) (ho : Own B W v l) (hRB : R < B) (o : Obj) (hg : (W.alloc o).grownBy W' v.ownBlock) : RdB R s p W' :=
 h.grown ho hRB (World.grownBy.trans (World.grownBy_alloc W _ _) hg)
theorem encodeRune_le (r : Nat) : (encodeRune r).length ≤ 4 := by
 unfold encodeRune encodeRuneZ
 rw [List.length_map]
 repeat' split
 all_goals simp
theorem Own.strStep {P : Program} {ops : Array Oper} {o : Oper} {a : Act} {K : Act → World → Prop} {Q : Exit → Act → World → Prop} {B : Nat} {W : World} (hw : Region.wanted o (yielded ops a.tmps) = true) (s x : Operand) (t u : TypeId)
  (ho : o.op = .call { callee := .builtin .append, args := #[s, x], argTypes := #[t, u] }) (ht : P.underlying t = some (.slice 5)) (hu : P.underlying u = some .string) (hinfo : (P.info? 5).map (fun i => (i.zero, i.size, i.bytes)) = some (some (.int .u8 0), 1, 1))
  (v : Value) (l : List UInt8) (y : ByteArray) (hs : a.eval s = v) (hx : a.eval x = .string y) (HO : Own B W v l) (hl : l.length + y.size ≤ 140737488355328)
  (h : ∀ v1 w1, Own B w1 v1 (l ++ y.data.toList) → W.grownBy w1 v.ownBlock → K (a.put o.dst v1) w1) {N : Option Tmp} :
  if Region.wanted o (yielded ops a.tmps) = true then Oper.wp P o a W K Q else K (a.put N undef) W := by
 obtain ⟨i0, hi, hzz⟩ := Option.map_eq_some_iff.1 hinfo
 simp only [Prod.mk.injEq] at hzz
 obtain ⟨hz0, hz1, hz2⟩ := hzz
 rw [if_pos hw]
 obtain ⟨v1, w1, hr, hown, hg, _⟩ := Lib.run_append_own_string (P := P) W B t u o.type 5 i0 ht hu hi hz0 hz1 hz2 v l.length (cellsOf l) HO.1 y (by simp only [maxLen]; omega) hl HO.2
 unfold Oper.wp execOp
 simp only [ho, resolve, invoke, builtin, Sem.run_bind, Sem.run_pure, Result.andThen_ok, List.map_toArray, List.map_cons, List.map_nil, hs, hx, hr]
 refine h v1 w1 ⟨?_, Nat.le_trans HO.2 hg.size⟩ hg
 have e : cellsOf l ++ strCells y = cellsOf (l ++ y.data.toList) := by rw [cellsOf_append, strCells_cellsOf]
 rw [e] at hown
 rw [List.length_append, size_data]
 exact hown
set_option maxRecDepth 1000000 in
set_option maxHeartbeats 4000000 in
theorem text_calls (R : Nat) (s : ByteArray) (p k : Nat) (o : Out (List UInt8)) (hl : s.size ≤ 10000000000) (hp : p < s.size) (W : World) (h : RdB R s p W) (hT : Tabs W) (hF : textF s.data.toList k [] (p + 1) = some o) :
  Calls Tryd.prog 42 #[ptr R] W (Ends R s W o textV) := by
 have HR1 := am (show RdB R s ((p + 1 : Nat) : Int) (W.setCell ⟨R, 1, none⟩ (.int .i64 ((p : Int) + 1))) from h.set _)
 have HO1 := am ((On.refl R W).set 1 (.int .i64 ((p : Int) + 1)))
 have HRB := am h.lt
 have HT := am (fun (wr : World) (ho : On R W wr) => hT.on h ho)
 have HF0 := am hF
 have c0 := h.c1
 have f0 := h.f1
 clear hT hF h
 go_enter Tryd.func42, Tryd.ntmps42
 go_wp2
 go_loopg [3] k (fun g v3 wr => ∃ (q : Nat) (l : List UInt8) (A : Option Addr) (cp : Nat), v3 = .slice A l.length cp ∧ Aside0 (Own W.heap.size wr (.slice A l.length cp) l) ∧ q ≤ s.size ∧ l.length ≤ 2 * q ∧ Aside0 (textF s.data.toList g l q = some o) ∧ Aside0 (RdB R s q wr) ∧ Aside0 (On R W wr))
 case atStart => exact ⟨p + 1, [], none, 0, rfl, ⟨Own.nil _ _ (by rw [World.size_setCell]; exact Nat.le_refl _)⟩, by omega, by simp, HF0, HR1, HO1⟩
 case round =>
  obtain ⟨q, l, A, cp, rfl, HW, hq, hlq, HF, HR, HO⟩ := hrel
  clear c0 f0
  have c1 := HR.out.c1
  have c0 := HR.out.c0
  have f1 := HR.out.f1
  cases gk with
  | zero => exact absurd HF.out (by simp [textF])
  | succ g =>
   cases hc : s.data.toList[q]? with
   | none =>
    have hps : s.size ≤ q := by rw [List.getElem?_eq_none_iff, size_data] at hc; exact hc
    have HX := am (show o = .err 3 s.size by have := HF.out; rw [textF_short _ _ _ _ hc] at this; injection this with this; rw [← this, size_data])
    clear hc
    go_wp2_with (go_at_call 39; (with_reducible refine (peek_short R s q hps _ ?rd).mono ?_); (case rd => exact HR.out); rintro e w1 ⟨rfl, hb⟩; have HB := am hb; clear hb)
    exact ⟨rfl, Ends.no HX.out (HO.out.drawn HB.out)⟩
   | some c =>
    have HC := am hc
    have hqs := at_lt' hc
    have hu := c.toNat_lt
    by_cases h34 : c = 34
    ·have HX := am (show o = .val l (q + 1) by have := HF.out; rw [textF_end _ _ _ _ _ hc h34] at this; injection this with this; exact this.symm)
     have e34 : ((c.toNat : Int) == 34) = true := by rw [h34]; decide
     have kc := fun (w : World) (ho : Own W.heap.size w (.slice A l.length cp) l) => own_string ho
     clear hc h34
     go_wp2_with (go_at_call 39; (with_reducible refine (peek_ok R s q c HC.out _ ?rd).mono ?_); (case rd => exact HR.out); rintro e w1 ⟨rfl, hb⟩; have HR2 := am (HR.out.drawn hb); have HO2 := am (HO.out.drawn hb); have HW2 := am ((HW.out.drawn hb).set HRB.out 1 (.int .i64 ((q : Int) + 1))); have d1 := HR2.out.c1; have f2 := HR2.out.f1; have kc2 := kc _ HW2.out; clear hb kc)
     go_ret
     exact Ends.ok HX.out rfl (HR2.out.set _) (HO2.out.set _ _)
    ·have e34 : ((c.toNat : Int) == 34) = false := (beq_u8 c 34 (by omega)).trans (decide_eq_false h34)
     by_cases h32 : c.toNat < 32
     ·have HX := am (show o = .err 41 q by have := HF.out; rw [textF_low _ _ _ _ _ hc h32] at this; injection this with this; exact this.symm)
      have a1 : (c.toNat : Int) < 32 := by omega
      clear hc h34
      go_wp2_with (first | (go_at_call 39; (with_reducible refine (peek_ok R s q c HC.out _ ?rd).mono ?_); (case rd => exact HR.out); rintro e w1 ⟨rfl, hb⟩; have HR2 := am (HR.out.drawn hb); have HO2 := am (HO.out.drawn hb); have HW2 := am (HW.out.drawn hb); have d1 := HR2.out.c1; have d0 := HR2.out.c0; have f2 := HR2.out.f1; clear hb) | (go_at_call 29; (with_reducible refine (fail_calls _ _ _ _).mono ?_); rintro e w9 ⟨rfl, hb⟩; have HB9 := am hb; clear hb))
      exact ⟨rfl, Ends.no HX.out (HO2.out.drawn HB9.out)⟩
     ·have a1 : ¬ (c.toNat : Int) < 32 := by omega
      have a2 : decide ((c.toNat : Int) < 32) = false := decide_eq_false a1
      by_cases h92 : c = 92
      ·have e92 : ((c.toNat : Int) == 92) = true := by rw [h92]; decide
       have HE := am (textF_esc s.data.toList g l q c hc h92)
       clear hc h34 h92
       cases hes : escF s.data.toList q with
       | err e q1 =>
        have HX := am (show o = .err e q1 by have := HF.out; rw [HE.out, hes] at this; injection this with this; exact this.symm)
        have HS := am hes
        clear hes HE
        go_wp2_with (first | (go_at_call 39; (with_reducible refine (peek_ok R s q c HC.out _ ?rd).mono ?_); (case rd => exact HR.out); rintro e w1 ⟨rfl, hb⟩; have HR2 := am (HR.out.drawn hb); have HO2 := am (HO.out.drawn hb); have HW2 := am (HW.out.drawn hb); have d1 := HR2.out.c1; have d0 := HR2.out.c0; have f2 := HR2.out.f1; clear hb) | (go_at_call 64; (with_reducible refine (Calls.err_of (escape_calls R s q (by omega) hqs _ ?rd) HS.out).mono ?_); (case rd => exact HR2.out); rintro e w4 ⟨rfl, ho⟩; have HO4 := am (HO2.out.trans ho); clear ho))
        exact ⟨rfl, Ends.no HX.out HO4.out⟩
       | val r q1 =>
        have HX := am (show textF s.data.toList g (l ++ encodeRune r) q1 = some o by have := HF.out; rw [HE.out, hes] at this; exact this)
        obtain ⟨hq1, hq2, hr⟩ := escF_val _ _ _ _ hes
        rw [size_data] at hq2
        have hen := encodeRune_le r
        have HS := am hes
        clear hes HE
        go_wp2_with (first | (go_at_call 39; (with_reducible refine (peek_ok R s q c HC.out _ ?rd).mono ?_); (case rd => exact HR.out); rintro e w1 ⟨rfl, hb⟩; have HR2 := am (HR.out.drawn hb); have HO2 := am (HO.out.drawn hb); have HW2 := am (HW.out.drawn hb); have d1 := HR2.out.c1; have d0 := HR2.out.c0; have f2 := HR2.out.f1; clear hb) | (go_at_call 64; (with_reducible refine (Calls.val_of (escape_calls R s q (by omega) hqs _ ?rd) HS.out).mono ?_); (case rd => exact HR2.out); rintro e w4 ⟨v, rfl, rfl, hr4, ho⟩; have HR4 := am hr4; have HO4 := am (HO2.out.trans ho); have HW4 := am (HW2.out.on HRB.out ho); clear ho hr4) | (go_at_call 63; (with_reducible refine (appendRune_calls W.heap.size _ l r (by omega) _ (by omega) ?own).mono ?_); (case own => exact HW4.out); rintro e w5 ⟨v', ob, rfl, ho, hg⟩; obtain ⟨A', cp', e5⟩ := ho.slice; subst e5; have HR5 := am (HR4.out.grown' HW4.out HRB.out ob hg); have HO5 := am (HO4.out.grown' HW4.out (Nat.le_refl _) (Nat.le_of_lt HRB.out) ob hg); have HW5 := am ho; clear ho hg))
        go_roundg g
        case measure => omega
        case rel => exact ⟨q1, l ++ encodeRune r, A', cp', by rw [List.length_append], HW5, hq2, by rw [List.length_append]; omega, HX, HR5, HO5⟩
      ·have e92 : ((c.toNat : Int) == 92) = false := (beq_u8 c 92 (by omega)).trans (decide_eq_false h92)
       by_cases h128 : c.toNat < 128
       ·have HX := am (show textF s.data.toList g (l ++ [c]) (q + 1) = some o by have := HF.out; rw [textF_ascii _ _ _ _ _ hc h34 h32 h92 h128] at this; exact this)
        have a3 : (c.toNat : Int) < 128 := by omega
        clear hc h34 h92
        go_wp2_with (first | (go_at_call 39; (with_reducible refine (peek_ok R s q c HC.out _ ?rd).mono ?_); (case rd => exact HR.out); rintro e w1 ⟨rfl, hb⟩; have HR2 := am (HR.out.drawn hb); have HO2 := am (HO.out.drawn hb); have HW2 := am (HW.out.drawn hb); have d1 := HR2.out.c1; have d0 := HR2.out.c0; have f2 := HR2.out.f1; clear hb) | (at_builtin; refine Own.one (B := W.heap.size) rfl (.tmp 110) (.tmp 112) 58 rfl Tryd.underlying58 info5 _ l c rfl rfl ?own (by omega) ?_; (case own => exact HW2.out); intro v1 w5 ho hg; obtain ⟨A', cp', e5⟩ := ho.slice; subst e5; have HR5 := am (HR2.out.grown HW2.out HRB.out hg); have HO5 := am (HO2.out.grown HW2.out (Nat.le_refl _) (Nat.le_of_lt HRB.out) hg); have HW5 := am ho; have d5 := HR5.out.c1; have f5 := HR5.out.f1; clear ho hg))
        go_roundg g
        case measure => omega
        case rel => exact ⟨q + 1, l ++ [c], A', cp', by rw [List.length_append]; rfl, ⟨HW5.out.set HRB.out _ _⟩, by omega, by rw [List.length_append, List.length_singleton]; omega, HX, ⟨HR5.out.set _⟩, ⟨HO5.out.set _ _⟩⟩
       ·have HX := am ((textF_rune s.data.toList g l q c hc h128).symm.trans HF.out)
        have a3 : ¬ (c.toNat : Int) < 128 := by omega
        have a4 : decide ((c.toNat : Int) < 128) = false := decide_eq_false a3
        clear hc h34 h92
        have b0 : (0 : Int) ≤ (q : Int) := by omega
        have b1 : (q : Int) ≤ (s.size : Int) := by omega
        have hdr := drop_extract s q
        have hex : s.extract q s.size = bs (s.data.toList.drop q) := by rw [← hdr, bs_eq]
        have hex2 : (⟨(s.data.toList.drop q).toArray⟩ : ByteArray) = s.extract q s.size := hex.symm
        rw [hex2, fullF_eq, ← hdr] at HX
        obtain ⟨hw1, hw2⟩ := dec_width (s.extract q s.size) (by rw [ByteArray.size_extract]; omega)
        have hsz : (s.extract q s.size).size = s.size - q := by rw [ByteArray.size_extract]; omega
        rw [hsz] at hw2
        have HD := am (fun w hT => decode_calls (s.extract q s.size) w hT)
        have HFu := am (fun w hT => fullRune_calls (s.extract q s.size) w hT)
        generalize decodeGo (s.extract q s.size) = D at HD HX hw1 hw2
        generalize fullG (s.extract q s.size).data.toList = fb at HFu HX
        obtain ⟨D1, D2⟩ := D
        dsimp only at HD HX hw1 hw2
        clear hex hex2
        go_upto_region 4 with (go_at_call 39; (with_reducible refine (peek_ok R s q c HC.out _ ?rd).mono ?_); (case rd => exact HR.out); rintro e w1 ⟨rfl, hb⟩; have HR2 := am (HR.out.drawn hb); have HO2 := am (HO.out.drawn hb); have HW2 := am (HW.out.drawn hb); have d1 := HR2.out.c1; have d0 := HR2.out.c0; have f2 := HR2.out.f1; clear hb)
        go_cut [5, 6] (fun v5 v6 wc => v5 = .int .i32 D1 ∧ v6 = .int .i64 D2 ∧ Aside0 (Below w1.heap.size w1 wc))
        case first =>
         go_region_with ((go_at_call 65; (with_reducible refine (HD.out _ ?tb).mono ?_); (case tb => exact HT.out _ (HO2.out.drewN _)); rintro e w4 ⟨rfl, hb⟩; have HB := am hb; clear hb))
         all_goals (go_wp2_with fail; go_meet; exact ⟨rfl, rfl, ⟨(below_drew1 (Below.refl w1.heap.size w1)).trans HB.out⟩⟩)
        case rest =>
         obtain ⟨rfl, rfl, HWc⟩ := hcut
         have HOc := am (On.of_below (R := R) (Nat.le_of_lt HR2.out.lt) HWc.out)
         have HR3 := am (HR2.out.below HWc.out)
         have HO3 := am (HO2.out.trans HOc.out)
         have HW3 := am (HW2.out.on HRB.out HOc.out)
         clear d0 d1 f2 c0 c1 f1 HR HO HW HR2 HO2 HW2 HWc HOc
         have d0 := HR3.out.c0
         have d1 := HR3.out.c1
         have f3 := HR3.out.f1
         by_cases hB : D1 = 65533 ∧ D2 < 2
         ·rw [if_pos hB] at HX
          obtain ⟨hB1, hB2⟩ := hB
          have e1 : ((D1 : Int) == 65533) = true := by rw [hB1]; rfl
          clear hB1
          have e2 : (D2 : Int) < 2 := by omega
          go_upto_region 6 with fail
          go_cut [45] (fun v45 wd => v45 = .bool (!fb) ∧ Aside0 (Below wc.heap.size wc wd))
          case first =>
           go_region_with ((go_at_call 66; (with_reducible refine (HFu.out _ ?tb).mono ?_); (case tb => exact HT.out _ (HO3.out.drewN _)); rintro e w4 ⟨rfl, hb⟩; have HB := am hb; clear hb))
           all_goals (go_wp2_with fail; go_meet; exact ⟨rfl, ⟨(below_drew1 (Below.refl wc.heap.size wc)).trans HB.out⟩⟩)
          case rest =>
           obtain ⟨rfl, HWd⟩ := hcut
           have HOc := am (On.of_below (R := R) (Nat.le_of_lt HR3.out.lt) HWd.out)
           have HR4 := am (HR3.out.below HWd.out)
           have HO4 := am (HO3.out.trans HOc.out)
           clear d0 d1 f3 HR3 HO3 HW3 HWd HOc
           have d0 := HR4.out.c0
           have d1 := HR4.out.c1
           cases fb with
           | true =>
            have HY := am (show o = .err 43 q by have := HX.out; rw [if_pos rfl] at this; injection this with this; exact this.symm)
            go_wp2_with (go_at_call 29; (with_reducible refine (fail_calls _ _ _ _).mono ?_); rintro e w9 ⟨rfl, hb⟩; have HB9 := am hb; clear hb)
            exact ⟨rfl, Ends.no HY.out (HO4.out.drawn HB9.out)⟩
           | false =>
            have HY := am (show o = .err 3 s.size by have := HX.out; rw [if_neg (by decide)] at this; injection this with this; rw [← this, size_data])
            go_wp2_with (go_at_call 61; (with_reducible refine (short_calls R s q _ ?rd).mono ?_); (case rd => exact HR4.out); rintro e w9 ⟨rfl, hb⟩; have HB9 := am hb; clear hb)
            exact ⟨rfl, Ends.no HY.out (HO4.out.drawn HB9.out)⟩
         ·rw [if_neg hB] at HX
          have hD : (((D1 : Int) == 65533) = false) ∨ ((((D1 : Int) == 65533) = true) ∧ ¬ (D2 : Int) < 2) := by
           by_cases h1 : D1 = 65533
           ·exact .inr ⟨by rw [h1]; rfl, fun h2 => hB ⟨h1, by omega⟩⟩
           ·exact .inl (by have : ¬ (D1 : Int) = 65533 := (by omega); simp [this])
          clear hB
          have b2 : (q : Int) ≤ (q : Int) + (D2 : Int) := by omega
          have b3 : (q : Int) + (D2 : Int) ≤ (s.size : Int) := by omega
          have hwr : wrap64 ((q : Int) + (D2 : Int)) = (q : Int) + (D2 : Int) := Go.Proofs.YtaalajhmfdcalaaDoor.X.wr _ (by omega)
          rcases hD with e1 | ⟨e1, e2⟩
          ·skip
           go_upto_region 9 with fail
           refine start_ (n := 18) (S := fun w' => w'.cell? ⟨R, 0, none⟩ = some (.string s) ∧ w'.cell? ⟨R, 1, none⟩ = some (.int .i64 q)) (ds := []) #[false, false, false, false, false, false, false, false, false, false, false, false, false, false, false, false, false, false] (by kernel_rfl) rfl rfl ⟨HR3.out.c0, HR3.out.c1⟩ (fun hHeld => ?_)
           refine take_ (i := 0) (N := some 54) (v := ?_) (a' := ?_) #[true, false, false, false, false, false, false, false, false, false, false, false, false, false, false, false, false, false] rfl rfl (by kernel_rfl) (fun _ _ _ h => h) (Or.inl ⟨by rfl, ?_⟩) hHeld ?_ ?_
           rotate_left
           ·rintro w' ⟨s0, s1⟩
            go_simp
            with_reducible rfl
           rotate_left
           ·simp only [Act.put, sAx, sZx, sSx, i64_w, i32_w]
            rfl
           refine take_ (i := 1) (N := some 55) (v := ?_) (a' := ?_) #[true, true, false, false, false, false, false, false, false, false, false, false, false, false, false, false, false, false] rfl rfl (by kernel_rfl) (fun _ _ _ h => h) (Or.inl ⟨by rfl, ?_⟩) hHeld ?_ ?_
           rotate_left
           ·rintro w' ⟨s0, s1⟩
            go_simp
            with_reducible rfl
           rotate_left
           ·simp only [Act.put, sAx, sZx, sSx, i64_w, i32_w]
            rfl
           refine take_ (i := 2) (N := some 56) (v := ?_) (a' := ?_) #[true, true, true, false, false, false, false, false, false, false, false, false, false, false, false, false, false, false] rfl rfl (by kernel_rfl) (fun _ _ _ h => h) (Or.inl ⟨by rfl, ?_⟩) hHeld ?_ ?_
           rotate_left
           ·rintro w' ⟨s0, s1⟩
            go_simp
            with_reducible rfl
           rotate_left
           ·simp only [Act.put, sAx, sZx, sSx, i64_w, i32_w]
            rfl
           refine take_ (i := 3) (N := some 57) (v := ?_) (a' := ?_) #[true, true, true, true, false, false, false, false, false, false, false, false, false, false, false, false, false, false] rfl rfl (by kernel_rfl) (fun _ _ _ h => h) (Or.inl ⟨by rfl, ?_⟩) hHeld ?_ ?_
           rotate_left
           ·rintro w' ⟨s0, s1⟩
            go_simp
            with_reducible rfl
           rotate_left
           ·simp only [Act.put, sAx, sZx, sSx, i64_w, i32_w]
            rfl
           refine take_ (i := 4) (N := some 58) (v := ?_) (a' := ?_) #[true, true, true, true, true, false, false, false, false, false, false, false, false, false, false, false, false, false] rfl rfl (by kernel_rfl) (fun _ _ _ h => h) (Or.inl ⟨by rfl, ?_⟩) hHeld ?_ ?_
           rotate_left
           ·rintro w' ⟨s0, s1⟩
            go_simp
            with_reducible rfl
           rotate_left
           ·simp only [Act.put, sAx, sZx, sSx, i64_w, i32_w]
            rfl
           refine take_ (i := 5) (N := some 59) (v := ?_) (a' := ?_) #[true, true, true, true, true, true, false, false, false, false, false, false, false, false, false, false, false, false] rfl rfl (by kernel_rfl) (fun _ _ _ h => h) (Or.inl ⟨by rfl, ?_⟩) hHeld ?_ ?_
           rotate_left
           ·rintro w' ⟨s0, s1⟩
            go_simp
            with_reducible rfl
           rotate_left
           ·simp only [Act.put, sAx, sZx, sSx, i64_w, i32_w]
            rfl
           refine take_ (i := 6) (N := some 60) (v := ?_) (a' := ?_) #[true, true, true, true, true, true, true, false, false, false, false, false, false, false, false, false, false, false] rfl rfl (by kernel_rfl) (fun _ _ _ h => h) (Or.inl ⟨by rfl, ?_⟩) hHeld ?_ ?_
           rotate_left
           ·rintro w' ⟨s0, s1⟩
            go_simp
            with_reducible rfl
           rotate_left
           ·simp only [Act.put, sAx, sZx, sSx, i64_w, i32_w]
            rfl
           refine take_ (i := 7) (N := some 61) (v := ?_) (a' := ?_) #[true, true, true, true, true, true, true, true, false, false, false, false, false, false, false, false, false, false] rfl rfl (by kernel_rfl) (fun _ _ _ h => h) (Or.inl ⟨by rfl, ?_⟩) hHeld ?_ ?_
           rotate_left
           ·rintro w' ⟨s0, s1⟩
            go_simp
            with_reducible rfl
           rotate_left
           ·simp only [Act.put, sAx, sZx, sSx, i64_w, i32_w]
            rfl
           refine take_ (i := 8) (N := some 62) (v := ?_) (a' := ?_) #[true, true, true, true, true, true, true, true, true, false, false, false, false, false, false, false, false, false] rfl rfl (by kernel_rfl) (fun _ _ _ h => h) (Or.inl ⟨by rfl, ?_⟩) hHeld ?_ ?_
           rotate_left
           ·rintro w' ⟨s0, s1⟩
            go_simp
            with_reducible rfl
           rotate_left
           ·simp only [Act.put, sAx, sZx, sSx, i64_w, i32_w]
            rfl
           refine take_ (i := 9) (N := some 63) (v := ?_) (a' := ?_) #[true, true, true, true, true, true, true, true, true, true, false, false, false, false, false, false, false, false] rfl rfl (by kernel_rfl) (fun _ _ _ h => h) (Or.inl ⟨by rfl, ?_⟩) hHeld ?_ ?_
           rotate_left
           ·rintro w' ⟨s0, s1⟩
            go_simp
            with_reducible rfl
           rotate_left
           ·simp only [Act.put, sAx, sZx, sSx, i64_w, i32_w]
            rfl
           refine take_ (i := 10) (N := some 64) (v := ?_) (a' := ?_) #[true, true, true, true, true, true, true, true, true, true, true, false, false, false, false, false, false, false] rfl rfl (by kernel_rfl) (fun _ _ _ h => h) (Or.inl ⟨by rfl, ?_⟩) hHeld ?_ ?_
           rotate_left
           ·rintro w' ⟨s0, s1⟩
            go_simp
            with_reducible rfl
           rotate_left
           ·simp only [Act.put, sAx, sZx, sSx, i64_w, i32_w]
            rfl
           refine take_ (i := 11) (N := some 65) (v := ?_) (a' := ?_) #[true, true, true, true, true, true, true, true, true, true, true, true, false, false, false, false, false, false] rfl rfl (by kernel_rfl) (fun _ _ _ h => h) (Or.inl ⟨by rfl, ?_⟩) hHeld ?_ ?_
           rotate_left
           ·rintro w' ⟨s0, s1⟩
            go_simp
            with_reducible rfl
           rotate_left
           ·simp only [Act.put, sAx, sZx, sSx, i64_w, i32_w]
            rfl
           refine take_ (i := 12) (N := some 66) (v := ?_) (a' := ?_) #[true, true, true, true, true, true, true, true, true, true, true, true, true, false, false, false, false, false] rfl rfl (by kernel_rfl) (fun _ _ _ h => h) (Or.inl ⟨by rfl, ?_⟩) hHeld ?_ ?_
           rotate_left
           ·rintro w' ⟨s0, s1⟩
            go_simp
            with_reducible rfl
           rotate_left
           ·simp only [Act.put, sAx, sZx, sSx, i64_w, i32_w]
            rfl
           refine take_ (i := 13) (N := some 67) (v := ?_) (a' := ?_) #[true, true, true, true, true, true, true, true, true, true, true, true, true, true, false, false, false, false] rfl rfl (by kernel_rfl) (fun _ _ _ h => h) (Or.inl ⟨by rfl, ?_⟩) hHeld ?_ ?_
           rotate_left
           ·rintro w' ⟨s0, s1⟩
            go_simp
            with_reducible rfl
           rotate_left
           ·simp only [Act.put, sAx, sZx, sSx, i64_w, i32_w]
            rfl
           refine take_ (i := 14) (N := some 68) (v := ?_) (a' := ?_) #[true, true, true, true, true, true, true, true, true, true, true, true, true, true, true, false, false, false] rfl rfl (by kernel_rfl) (fun _ _ _ h => h) (Or.inl ⟨by rfl, ?_⟩) hHeld ?_ ?_
           rotate_left
           ·rintro w' ⟨s0, s1⟩
            go_simp
            try rw [hwr]
            with_reducible rfl
           rotate_left
           ·simp only [Act.put, sAx, sZx, sSx, i64_w, i32_w]
            rfl
           refine take_ (i := 15) (N := some 69) (v := ?_) (a' := ?_) #[true, true, true, true, true, true, true, true, true, true, true, true, true, true, true, true, false, false] rfl rfl (by kernel_rfl) (fun _ _ _ h => h) (Or.inl ⟨by rfl, ?_⟩) hHeld ?_ ?_
           rotate_left
           ·rintro w' ⟨s0, s1⟩
            go_simp
            with_reducible rfl
           rotate_left
           ·simp only [Act.put, sAx, sZx, sSx, i64_w, i32_w]
            rfl
           refine one_ (i := 16) (N := some 70) #[true, true, true, true, true, true, true, true, true, true, true, true, true, true, true, true, true, false] rfl rfl (by kernel_rfl) (by decide) (fun K hK => ?_)
           refine Own.strStep (B := W.heap.size) rfl (.tmp 54) (.tmp 69) 58 9 rfl Tryd.underlying58 Tryd.underlying9 info5 _ l (s.extract q (q + D2)) rfl ?hx ?own ?len ?_
           (case hx => rfl)
           (case own => exact HW3.out)
           (case len => rw [ByteArray.size_extract]; omega)
           intro v1 w5 ho hg
           obtain ⟨A', cp', e5⟩ := ho.slice
           subst e5
           have HR5 := am (show RdB R s q w5 from RdB.grown (W := wc.drew) (HR3.out.drew) HW3.out HRB.out hg)
           have HO5 := am (show On R W w5 from On.grown (W1 := wc.drew) (HO3.out.drewN 1) HW3.out (Nat.le_refl _) (Nat.le_of_lt HRB.out) hg)
           have HW5 := am ho
           refine hK.out _ _ ⟨HR5.out.c0, HR5.out.c1⟩ (fun hHeld => ?_)
           clear hK K
           refine norm_ (a' := ?_) ?_ ?_
           rotate_left
           ·show Act.put _ (some 70) _ = _
            simp only [Act.put, sAx, sZx, sSx, i64_w, i32_w]
            rfl
           refine take_ (i := 17) (N := some 3) (v := ?_) (a' := ?_) #[true, true, true, true, true, true, true, true, true, true, true, true, true, true, true, true, true, true] rfl rfl (by kernel_rfl) (fun _ _ _ h => h) (Or.inl ⟨by rfl, ?_⟩) hHeld ?_ ?_
           rotate_left
           ·rintro w' ⟨s0, s1⟩
            go_simp
            with_reducible rfl
           rotate_left
           ·simp only [Act.put, sAx, sZx, sSx, i64_w, i32_w]
            rfl
           refine done_ (by kernel_rfl) ?_
           have d5 := HR5.out.c1
           have f5 := HR5.out.f1
           go_wp2
           go_roundg g
           case measure => omega
           case rel => exact ⟨q + D2, l ++ (s.extract q (q + D2)).data.toList, A', cp', (by first | rfl | (congr 1; simp; done) | (congr 1; simp [List.length_append, size_data]; omega)), ⟨HW5.out.set HRB.out _ _⟩, by omega, by rw [List.length_append, size_data, ByteArray.size_extract]; omega, ⟨by have := HX.out; rw [hdr] at this; rw [Lib.extract_data, Nat.add_sub_cancel_left]; exact this⟩, ⟨by have e := HR5.out.set ((q + D2 : Nat) : Int); rw [Int.natCast_add] at e ⊢; exact e⟩, ⟨HO5.out.set _ _⟩⟩
          ·skip
           go_upto_region 9 with fail
           refine start_ (n := 18) (S := fun w' => w'.cell? ⟨R, 0, none⟩ = some (.string s) ∧ w'.cell? ⟨R, 1, none⟩ = some (.int .i64 q)) (ds := []) #[false, false, false, false, false, false, false, false, false, false, false, false, false, false, false, false, false, false] (by kernel_rfl) rfl rfl ⟨HR3.out.c0, HR3.out.c1⟩ (fun hHeld => ?_)
           refine take_ (i := 0) (N := some 54) (v := ?_) (a' := ?_) #[true, false, false, false, false, false, false, false, false, false, false, false, false, false, false, false, false, false] rfl rfl (by kernel_rfl) (fun _ _ _ h => h) (Or.inl ⟨by rfl, ?_⟩) hHeld ?_ ?_
           rotate_left
           ·rintro w' ⟨s0, s1⟩
            go_simp
            with_reducible rfl
           rotate_left
           ·simp only [Act.put, sAx, sZx, sSx, i64_w, i32_w]
            rfl
           refine take_ (i := 1) (N := some 55) (v := ?_) (a' := ?_) #[true, true, false, false, false, false, false, false, false, false, false, false, false, false, false, false, false, false] rfl rfl (by kernel_rfl) (fun _ _ _ h => h) (Or.inl ⟨by rfl, ?_⟩) hHeld ?_ ?_
           rotate_left
           ·rintro w' ⟨s0, s1⟩
            go_simp
            with_reducible rfl
           rotate_left
           ·simp only [Act.put, sAx, sZx, sSx, i64_w, i32_w]
            rfl
           refine take_ (i := 2) (N := some 56) (v := ?_) (a' := ?_) #[true, true, true, false, false, false, false, false, false, false, false, false, false, false, false, false, false, false] rfl rfl (by kernel_rfl) (fun _ _ _ h => h) (Or.inl ⟨by rfl, ?_⟩) hHeld ?_ ?_
           rotate_left
           ·rintro w' ⟨s0, s1⟩
            go_simp
            with_reducible rfl
           rotate_left
           ·simp only [Act.put, sAx, sZx, sSx, i64_w, i32_w]
            rfl
           refine take_ (i := 3) (N := some 57) (v := ?_) (a' := ?_) #[true, true, true, true, false, false, false, false, false, false, false, false, false, false, false, false, false, false] rfl rfl (by kernel_rfl) (fun _ _ _ h => h) (Or.inl ⟨by rfl, ?_⟩) hHeld ?_ ?_
           rotate_left
           ·rintro w' ⟨s0, s1⟩
            go_simp
            with_reducible rfl
           rotate_left
           ·simp only [Act.put, sAx, sZx, sSx, i64_w, i32_w]
            rfl
           refine take_ (i := 4) (N := some 58) (v := ?_) (a' := ?_) #[true, true, true, true, true, false, false, false, false, false, false, false, false, false, false, false, false, false] rfl rfl (by kernel_rfl) (fun _ _ _ h => h) (Or.inl ⟨by rfl, ?_⟩) hHeld ?_ ?_
           rotate_left
           ·rintro w' ⟨s0, s1⟩
            go_simp
            with_reducible rfl
           rotate_left
           ·simp only [Act.put, sAx, sZx, sSx, i64_w, i32_w]
            rfl
           refine take_ (i := 5) (N := some 59) (v := ?_) (a' := ?_) #[true, true, true, true, true, true, false, false, false, false, false, false, false, false, false, false, false, false] rfl rfl (by kernel_rfl) (fun _ _ _ h => h) (Or.inl ⟨by rfl, ?_⟩) hHeld ?_ ?_
           rotate_left
           ·rintro w' ⟨s0, s1⟩
            go_simp
            with_reducible rfl
           rotate_left
           ·simp only [Act.put, sAx, sZx, sSx, i64_w, i32_w]
            rfl
           refine take_ (i := 6) (N := some 60) (v := ?_) (a' := ?_) #[true, true, true, true, true, true, true, false, false, false, false, false, false, false, false, false, false, false] rfl rfl (by kernel_rfl) (fun _ _ _ h => h) (Or.inl ⟨by rfl, ?_⟩) hHeld ?_ ?_
           rotate_left
           ·rintro w' ⟨s0, s1⟩
            go_simp
            with_reducible rfl
           rotate_left
           ·simp only [Act.put, sAx, sZx, sSx, i64_w, i32_w]
            rfl
           refine take_ (i := 7) (N := some 61) (v := ?_) (a' := ?_) #[true, true, true, true, true, true, true, true, false, false, false, false, false, false, false, false, false, false] rfl rfl (by kernel_rfl) (fun _ _ _ h => h) (Or.inl ⟨by rfl, ?_⟩) hHeld ?_ ?_
           rotate_left
           ·rintro w' ⟨s0, s1⟩
            go_simp
            with_reducible rfl
           rotate_left
           ·simp only [Act.put, sAx, sZx, sSx, i64_w, i32_w]
            rfl
           refine take_ (i := 8) (N := some 62) (v := ?_) (a' := ?_) #[true, true, true, true, true, true, true, true, true, false, false, false, false, false, false, false, false, false] rfl rfl (by kernel_rfl) (fun _ _ _ h => h) (Or.inl ⟨by rfl, ?_⟩) hHeld ?_ ?_
           rotate_left
           ·rintro w' ⟨s0, s1⟩
            go_simp
            with_reducible rfl
           rotate_left
           ·simp only [Act.put, sAx, sZx, sSx, i64_w, i32_w]
            rfl
           refine take_ (i := 9) (N := some 63) (v := ?_) (a' := ?_) #[true, true, true, true, true, true, true, true, true, true, false, false, false, false, false, false, false, false] rfl rfl (by kernel_rfl) (fun _ _ _ h => h) (Or.inl ⟨by rfl, ?_⟩) hHeld ?_ ?_
           rotate_left
           ·rintro w' ⟨s0, s1⟩
            go_simp
            with_reducible rfl
           rotate_left
           ·simp only [Act.put, sAx, sZx, sSx, i64_w, i32_w]
            rfl
           refine take_ (i := 10) (N := some 64) (v := ?_) (a' := ?_) #[true, true, true, true, true, true, true, true, true, true, true, false, false, false, false, false, false, false] rfl rfl (by kernel_rfl) (fun _ _ _ h => h) (Or.inl ⟨by rfl, ?_⟩) hHeld ?_ ?_
           rotate_left
           ·rintro w' ⟨s0, s1⟩
            go_simp
            with_reducible rfl
           rotate_left
           ·simp only [Act.put, sAx, sZx, sSx, i64_w, i32_w]
            rfl
           refine take_ (i := 11) (N := some 65) (v := ?_) (a' := ?_) #[true, true, true, true, true, true, true, true, true, true, true, true, false, false, false, false, false, false] rfl rfl (by kernel_rfl) (fun _ _ _ h => h) (Or.inl ⟨by rfl, ?_⟩) hHeld ?_ ?_
           rotate_left
           ·rintro w' ⟨s0, s1⟩
            go_simp
            with_reducible rfl
           rotate_left
           ·simp only [Act.put, sAx, sZx, sSx, i64_w, i32_w]
            rfl
           refine take_ (i := 12) (N := some 66) (v := ?_) (a' := ?_) #[true, true, true, true, true, true, true, true, true, true, true, true, true, false, false, false, false, false] rfl rfl (by kernel_rfl) (fun _ _ _ h => h) (Or.inl ⟨by rfl, ?_⟩) hHeld ?_ ?_
           rotate_left
           ·rintro w' ⟨s0, s1⟩
            go_simp
            with_reducible rfl
           rotate_left
           ·simp only [Act.put, sAx, sZx, sSx, i64_w, i32_w]
            rfl
           refine take_ (i := 13) (N := some 67) (v := ?_) (a' := ?_) #[true, true, true, true, true, true, true, true, true, true, true, true, true, true, false, false, false, false] rfl rfl (by kernel_rfl) (fun _ _ _ h => h) (Or.inl ⟨by rfl, ?_⟩) hHeld ?_ ?_
           rotate_left
           ·rintro w' ⟨s0, s1⟩
            go_simp
            with_reducible rfl
           rotate_left
           ·simp only [Act.put, sAx, sZx, sSx, i64_w, i32_w]
            rfl
           refine take_ (i := 14) (N := some 68) (v := ?_) (a' := ?_) #[true, true, true, true, true, true, true, true, true, true, true, true, true, true, true, false, false, false] rfl rfl (by kernel_rfl) (fun _ _ _ h => h) (Or.inl ⟨by rfl, ?_⟩) hHeld ?_ ?_
           rotate_left
           ·rintro w' ⟨s0, s1⟩
            go_simp
            try rw [hwr]
            with_reducible rfl
           rotate_left
           ·simp only [Act.put, sAx, sZx, sSx, i64_w, i32_w]
            rfl
           refine take_ (i := 15) (N := some 69) (v := ?_) (a' := ?_) #[true, true, true, true, true, true, true, true, true, true, true, true, true, true, true, true, false, false] rfl rfl (by kernel_rfl) (fun _ _ _ h => h) (Or.inl ⟨by rfl, ?_⟩) hHeld ?_ ?_
           rotate_left
           ·rintro w' ⟨s0, s1⟩
            go_simp
            with_reducible rfl
           rotate_left
           ·simp only [Act.put, sAx, sZx, sSx, i64_w, i32_w]
            rfl
           refine one_ (i := 16) (N := some 70) #[true, true, true, true, true, true, true, true, true, true, true, true, true, true, true, true, true, false] rfl rfl (by kernel_rfl) (by decide) (fun K hK => ?_)
           refine Own.strStep (B := W.heap.size) rfl (.tmp 54) (.tmp 69) 58 9 rfl Tryd.underlying58 Tryd.underlying9 info5 _ l (s.extract q (q + D2)) rfl ?hx2 ?own2 ?len2 ?_
           (case hx2 => rfl)
           (case own2 => exact HW3.out)
           (case len2 => rw [ByteArray.size_extract]; omega)
           intro v1 w5 ho hg
           obtain ⟨A', cp', e5⟩ := ho.slice
           subst e5
           have HR5 := am (show RdB R s q w5 from RdB.grown (W := wc.drew) (HR3.out.drew) HW3.out HRB.out hg)
           have HO5 := am (show On R W w5 from On.grown (W1 := wc.drew) (HO3.out.drewN 1) HW3.out (Nat.le_refl _) (Nat.le_of_lt HRB.out) hg)
           have HW5 := am ho
           refine hK.out _ _ ⟨HR5.out.c0, HR5.out.c1⟩ (fun hHeld => ?_)
           clear hK K
           refine norm_ (a' := ?_) ?_ ?_
           rotate_left
           ·show Act.put _ (some 70) _ = _
            simp only [Act.put, sAx, sZx, sSx, i64_w, i32_w]
            rfl
           refine take_ (i := 17) (N := some 3) (v := ?_) (a' := ?_) #[true, true, true, true, true, true, true, true, true, true, true, true, true, true, true, true, true, true] rfl rfl (by kernel_rfl) (fun _ _ _ h => h) (Or.inl ⟨by rfl, ?_⟩) hHeld ?_ ?_
           rotate_left
           ·rintro w' ⟨s0, s1⟩
            go_simp
            with_reducible rfl
           rotate_left
           ·simp only [Act.put, sAx, sZx, sSx, i64_w, i32_w]
            rfl
           refine done_ (by kernel_rfl) ?_
           have d5 := HR5.out.c1
           have f5 := HR5.out.f1
           go_wp2
           go_roundg g
           case measure => omega
           case rel => exact ⟨q + D2, l ++ (s.extract q (q + D2)).data.toList, A', cp', (by first | rfl | (congr 1; simp; done) | (congr 1; simp [List.length_append, size_data]; omega)), ⟨HW5.out.set HRB.out _ _⟩, by omega, by rw [List.length_append, size_data, ByteArray.size_extract]; omega, ⟨by have := HX.out; rw [hdr] at this; rw [Lib.extract_data, Nat.add_sub_cancel_left]; exact this⟩, ⟨by have e := HR5.out.set ((q + D2 : Nat) : Int); rw [Int.natCast_add] at e ⊢; exact e⟩, ⟨HO5.out.set _ _⟩⟩
end Go.Proofs.YtaalajhmfdcalaaDoor.X
namespace Go.Proofs.YtaalajhmfdcalaaDoor.X
open Go.RowKit Go.Lib Go.Proofs.YtaalajhmfdcalaaDoorW.PrintWords
structure Inv {α : Type} (R : Nat) (s : ByteArray) (W0 : World) (I : α → Nat → World → Prop) (a : α) (q : Nat) (W : World) : Prop where
 rd : RdB R s q W
 on : On R W0 W
 i : I a q W
def SevEnds {α : Type} (R : Nat) (s : ByteArray) (W0 : World) (I : α → Nat → World → Prop) (o : Out α) (x : Ending) (W' : World) : Prop :=
 match o with
 | .val a q => x = .returned (.tuple #[]) ∧ Inv R s W0 I a q W'
 | .err e q => x = pan e q ∧ On R W0 W'
theorem SevEnds.ok {α : Type} {R : Nat} {s : ByteArray} {W0 W' : World} {I : α → Nat → World → Prop} {o : Out α} {a : α} {q : Nat} (ho : o = .val a q) (h : Inv R s W0 I a q W') : SevEnds R s W0 I o (.returned (.tuple #[])) W' := by
 subst ho; exact ⟨rfl, h⟩
theorem SevEnds.no {α : Type} {R : Nat} {s : ByteArray} {W0 W' : World} {I : α → Nat → World → Prop} {o : Out α} {e q : Nat} (ho : o = .err e q) (h : On R W0 W') : SevEnds R s W0 I o (pan e q) W' := by
 subst ho; exact ⟨rfl, h⟩
theorem SevEnds.val_of {α : Type} {f : FuncId} {args : Array Value} {R : Nat} {s : ByteArray} {W W0 : World} {I : α → Nat → World → Prop} {o : Out α} {a : α} {q : Nat} (h : Calls Tryd.prog f args W (SevEnds R s W0 I o)) (ho : o = .val a q) :
  Calls Tryd.prog f args W fun x W' => x = .returned (.tuple #[]) ∧ Inv R s W0 I a q W' := by
 subst ho; exact h
theorem SevEnds.err_of {α : Type} {f : FuncId} {args : Array Value} {R : Nat} {s : ByteArray} {W W0 : World} {I : α → Nat → World → Prop} {o : Out α} {e q : Nat} (h : Calls Tryd.prog f args W (SevEnds R s W0 I o)) (ho : o = .err e q) :
  Calls Tryd.prog f args W fun x W' => x = pan e q ∧ On R W0 W' := by
 subst ho; exact h
theorem beq_u8' (a b : UInt8) : ((a.toNat : Int) == (b.toNat : Int)) = decide (a = b) := by
 by_cases hc : a = b
 ·rw [hc]; simp
 ·have : ¬ (a.toNat : Int) = (b.toNat : Int) := fun hh => hc (UInt8.toNat.inj (by omega))
  simp [hc, this]
theorem bne_u8' (a b : UInt8) : ((a.toNat : Int) != (b.toNat : Int)) = !decide (a = b) := congrArg (!·) (beq_u8' a b)
theorem sevL_item {α : Type} (one : α → Nat → Option (Out α)) (s : List UInt8) (en : UInt8) (k : Nat) (a : α) (q : Nat) (o : Out α) (h : sevL one s en (k + 1) a q = some o) :
  (∃ e p, one a q = some (.err e p) ∧ o = .err e p) ∨ (∃ a' q1, one a q = some (.val a' q1) ∧
   ((s[blanksF s q1]? = none ∧ o = .err 3 s.length) ∨ (∃ c, s[blanksF s q1]? = some c ∧ ((c = en ∧ o = .val a' (blanksF s q1 + 1)) ∨ (c ≠ en ∧ c = 44 ∧ sevL one s en k a' (blanksF s (blanksF s q1 + 1)) = some o) ∨ (c ≠ en ∧ c ≠ 44 ∧ o = .err 40 (blanksF s q1)))))) := by
 simp only [sevL] at h
 cases h1 : one a q with
 | none => rw [h1] at h; cases h
 | some o1 =>
  rw [h1] at h
  cases o1 with
  | err e p => simp only at h; injection h with h; exact .inl ⟨e, p, rfl, h.symm⟩
  | val a' q1 =>
   simp only at h
   refine .inr ⟨a', q1, rfl, ?_⟩
   cases hc : s[blanksF s q1]? with
   | none => rw [hc] at h; simp only at h; injection h with h; exact .inl ⟨rfl, h.symm⟩
   | some c =>
    rw [hc] at h
    simp only at h
    refine .inr ⟨c, rfl, ?_⟩
    by_cases hcn : c = en
    ·rw [if_pos hcn] at h; injection h with h; exact .inl ⟨hcn, h.symm⟩
    ·rw [if_neg hcn] at h
     by_cases h44 : c = 44
     ·rw [if_pos h44] at h; exact .inr (.inl ⟨hcn, h44, h⟩)
     ·rw [if_neg h44] at h; injection h with h; exact .inr (.inr ⟨hcn, h44, h.symm⟩)
set_option maxRecDepth 1000000 in
set_option maxHeartbeats 4000000 in
theorem sevList_calls {α : Type} (R : Nat) (s : ByteArray) (en : UInt8) (one : α → Nat → Option (Out α)) (I : α → Nat → World → Prop) (W0 : World) (x0 x1 x2 : Value)
  (hl : s.size ≤ 10000000000) (hI : ∀ a q q' W W', q ≤ q' → I a q W → On R W W' → I a q' W') (hle : ∀ a q a' q', q ≤ s.size → one a q = some (.val a' q') → q' ≤ s.size)
  (hone : ∀ a q o W, q ≤ s.size → one a q = some o → Inv R s W0 I a q W → Calls Tryd.prog 68 #[x0, x1, x2] W (SevEnds R s W0 I o))
  (k : Nat) (a : α) (p : Nat) (o : Out α) (hp : p < s.size) (W : World) (h : Inv R s W0 I a p W) (hF : sevF one s.data.toList en k a p = some o) :
  Calls Tryd.prog 67 #[ptr R, .int .u8 en.toNat, .func (.func 68) #[] #[x0, x1, x2]] W (SevEnds R s W0 I o) := by
 have HR1 := am (show RdB R s ((p + 1 : Nat) : Int) (W.setCell ⟨R, 1, none⟩ (.int .i64 ((p : Int) + 1))) from h.rd.set _)
 have HN1 := am (show On R W (W.setCell ⟨R, 1, none⟩ (.int .i64 ((p : Int) + 1))) from (On.refl R W).set 1 _)
 have HI := am hI
 have HL := am hle
 have HC1 := am hone
 have HV := am h
 have HF := am hF
 have c0 := h.rd.c1
 have f0 := h.rd.f1
 have hq1 := blanks_le s.data.toList (p + 1) (by rw [size_data]; omega)
 rw [size_data] at hq1
 have hge1 := blanks_ge s.data.toList (p + 1)
 clear hI hle hone h hF
 cases hc : s.data.toList[blanksF s.data.toList (p + 1)]? with
 | none =>
  have hps : s.size ≤ blanksF s.data.toList (p + 1) := by rw [List.getElem?_eq_none_iff, size_data] at hc; exact hc
  have HX := am (show o = .err 3 s.size by have := HF.out; simp only [sevF, hc] at this; injection this with this; rw [← this, size_data])
  clear hc
  generalize hgen : blanksF s.data.toList (p + 1) = q1 at *
  have GEN := am hgen
  clear hgen
  go_enter Tryd.func67, Tryd.ntmps67
  go_wp2_with (first | (go_at_call 27; (with_reducible refine (blanks_calls R s (p + 1) (by omega) (by omega) _ ?rd1).mono ?_); (case rd1 => exact HR1.out); rintro e w1 ⟨rfl, hr, ho⟩; (try rw [GEN.out] at hr); have HR2 := am hr; have HO2 := am (HV.out.on.trans (HN1.out.trans ho)); have HN2 := am (HN1.out.trans ho); clear hr ho) | (go_at_call 39; (with_reducible refine (peek_short R s q1 hps _ ?rd2).mono ?_); (case rd2 => exact HR2.out); rintro e w2 ⟨rfl, hb⟩; have HB := am hb; clear hb))
  exact ⟨rfl, SevEnds.no HX.out (HO2.out.drawn HB.out)⟩
 | some c =>
  have HC := am hc
  by_cases hcn : c = en
  ·have HX := am (show o = .val a (blanksF s.data.toList (p + 1) + 1) by have := HF.out; simp only [sevF, hc, if_pos hcn] at this; injection this with this; exact this.symm)
   have een := (beq_u8' c en).trans (decide_eq_true hcn)
   have hlt := at_lt' hc
   clear hc hcn
   generalize hgen : blanksF s.data.toList (p + 1) = q1 at *
   have GEN := am hgen
   clear hgen
   go_enter Tryd.func67, Tryd.ntmps67
   go_wp2_with (first | (go_at_call 27; (with_reducible refine (blanks_calls R s (p + 1) (by omega) (by omega) _ ?rd1).mono ?_); (case rd1 => exact HR1.out); rintro e w1 ⟨rfl, hr, ho⟩; (try rw [GEN.out] at hr); have HR2 := am hr; have HO2 := am (HV.out.on.trans (HN1.out.trans ho)); have HN2 := am (HN1.out.trans ho); clear hr ho) | (go_at_call 39; (with_reducible refine (peek_ok R s q1 c HC.out _ ?rd2).mono ?_); (case rd2 => exact HR2.out); rintro e w2 ⟨rfl, hb⟩; have HR3 := am (HR2.out.drawn hb); have HO3 := am (HO2.out.drawn hb); have HN3 := am (HN2.out.drawn hb); have c3 := HR3.out.c1; have f3 := HR3.out.f1; clear hb))
   go_end0
   exact SevEnds.ok HX.out ⟨HR3.out.set _, HO3.out.set _ _, HI.out _ _ _ _ _ (by omega) HV.out.i (HN3.out.set _ _)⟩
  ·have HX := am (show sevL one s.data.toList en k a (blanksF s.data.toList (p + 1)) = some o by have := HF.out; simp only [sevF, hc, if_neg hcn] at this; exact this)
   have een := (beq_u8' c en).trans (decide_eq_false hcn)
   have hlt := at_lt' hc
   clear hc hcn HF
   generalize hgen : blanksF s.data.toList (p + 1) = q1 at *
   have GEN := am hgen
   clear hgen
   go_enter Tryd.func67, Tryd.ntmps67
   go_wp2_with (first | (go_at_call 27; (with_reducible refine (blanks_calls R s (p + 1) (by omega) (by omega) _ ?rd1).mono ?_); (case rd1 => exact HR1.out); rintro e w1 ⟨rfl, hr, ho⟩; (try rw [GEN.out] at hr); have HR2 := am hr; have HO2 := am (HV.out.on.trans (HN1.out.trans ho)); have HN2 := am (HN1.out.trans ho); clear hr ho) | (go_at_call 39; (with_reducible refine (peek_ok R s q1 c HC.out _ ?rd2).mono ?_); (case rd2 => exact HR2.out); rintro e w2 ⟨rfl, hb⟩; have HR3 := am (HR2.out.drawn hb); have HO3 := am (HO2.out.drawn hb); have HN3 := am (HN2.out.drawn hb); clear hb))
   go_loopg [] k (fun g wr => ∃ (b : α) (q : Nat), q ≤ s.size ∧ Aside0 (sevL one s.data.toList en g b q = some o) ∧ Aside0 (Inv R s W0 I b q wr))
   case atStart => exact ⟨a, q1, hq1, HX, ⟨HR3.out, HO3.out, HI.out _ _ _ _ _ (by omega) HV.out.i HN3.out⟩⟩
   case round =>
    obtain ⟨b, q, hq, HF, HW⟩ := hrel
    clear HR1 HN1 HV HC een HX HR2 HO2 HN2 HR3 HO3 HN3 c0 f0 hlt hq1 hp hge1
    cases gk with
    | zero => exact absurd HF.out (by simp [sevL])
    | succ g =>
     rcases sevL_item _ _ _ _ _ _ _ HF.out with ⟨e, p1, h1, h2⟩ | ⟨a', q2, h1, h2⟩
     ·have HE := am h1
      have HX := am h2
      clear h1 h2
      go_wp2_with (go_at_call 68; (with_reducible refine (SevEnds.err_of (HC1.out b q _ _ hq HE.out HW.out) rfl).mono ?_); rintro e w3 ⟨rfl, ho⟩; have HO4 := am ho; clear ho)
      exact ⟨rfl, SevEnds.no HX.out HO4.out⟩
     ·have HE := am h1
      have hq2 := HL.out _ _ _ _ hq h1
      have hq3 := blanks_le s.data.toList q2 (by rw [size_data]; omega)
      rw [size_data] at hq3
      have hge3 := blanks_ge s.data.toList q2
      clear h1
      rcases h2 with ⟨hc, h2⟩ | ⟨c, hc, h2⟩
      ·have hps : s.size ≤ blanksF s.data.toList q2 := by rw [List.getElem?_eq_none_iff, size_data] at hc; exact hc
       have HX := am (h2.trans (by rw [size_data]))
       clear hc h2
       generalize hg3 : blanksF s.data.toList q2 = q3 at *
       have HG3 := am hg3
       clear hg3
       go_wp2_with (first | (go_at_call 68; (with_reducible refine (SevEnds.val_of (HC1.out b q _ _ hq HE.out HW.out) rfl).mono ?_); rintro e w4 ⟨rfl, hv⟩; have HR4 := am hv.rd; have HO4 := am hv.on; have HI4 := am hv.i; clear hv) | (go_at_call 27; (with_reducible refine (blanks_calls R s q2 (by omega) hq2 _ ?rd5).mono ?_); (case rd5 => exact HR4.out); rintro e w5 ⟨rfl, hr, ho⟩; rw [HG3.out] at hr; have HR5 := am hr; have HO5 := am (HO4.out.trans ho); have HN5 := am ho; clear hr ho) | (go_at_call 39; (with_reducible refine (peek_short R s q3 hps _ ?rd6).mono ?_); (case rd6 => exact HR5.out); rintro e w6 ⟨rfl, hb⟩; have HB := am hb; clear hb))
       exact ⟨rfl, SevEnds.no HX.out (HO5.out.drawn HB.out)⟩
      ·have HC := am hc
       have hlt := at_lt' hc
       clear hc
       have hq4 := blanks_le s.data.toList (blanksF s.data.toList q2 + 1) (by rw [size_data]; omega)
       rw [size_data] at hq4
       have hge4 := blanks_ge s.data.toList (blanksF s.data.toList q2 + 1)
       generalize hg4 : blanksF s.data.toList (blanksF s.data.toList q2 + 1) = q4 at *
       generalize hg3 : blanksF s.data.toList q2 = q3 at *
       have HG3 := am hg3
       have HG4 := am hg4
       clear hg3 hg4
       rcases h2 with ⟨hcn, h2⟩ | ⟨hcn, h44, h2⟩ | ⟨hcn, h44, h2⟩
       ·have HX := am h2
        have een := (beq_u8' c en).trans (decide_eq_true hcn)
        have ene := (bne_u8' c en).trans (congrArg (!·) (decide_eq_true hcn))
        have e44 : ((c.toNat : Int) != 44) = false ∨ ((c.toNat : Int) != 44) = true := by cases ((c.toNat : Int) != 44); exact .inl rfl; exact .inr rfl
        clear h2 hcn
        rcases e44 with e44 | e44
        ·skip
         go_wp2_with (first | (go_at_call 68; (with_reducible refine (SevEnds.val_of (HC1.out b q _ _ hq HE.out HW.out) rfl).mono ?_); rintro e w4 ⟨rfl, hv⟩; have HR4 := am hv.rd; have HO4 := am hv.on; have HI4 := am hv.i; clear hv) | (go_at_call 27; (with_reducible refine (blanks_calls R s q2 (by omega) hq2 _ ?rd5).mono ?_); (case rd5 => exact HR4.out); rintro e w5 ⟨rfl, hr, ho⟩; rw [HG3.out] at hr; have HR5 := am hr; have HO5 := am (HO4.out.trans ho); have HN5 := am ho; clear hr ho) | (go_at_call 39; (with_reducible refine (peek_ok R s q3 c HC.out _ ?rd6).mono ?_); (case rd6 => exact HR5.out); rintro e w6 ⟨rfl, hb⟩; have HR6 := am (HR5.out.drawn hb); have HO6 := am (HO5.out.drawn hb); have HN6 := am (HN5.out.drawn hb); have c6 := HR6.out.c1; have f6 := HR6.out.f1; clear hb))
         go_end0
         exact SevEnds.ok HX.out ⟨HR6.out.set _, HO6.out.set _ _, HI.out _ _ _ _ _ (by omega) HI4.out (HN6.out.set _ _)⟩
        ·skip
         go_wp2_with (first | (go_at_call 68; (with_reducible refine (SevEnds.val_of (HC1.out b q _ _ hq HE.out HW.out) rfl).mono ?_); rintro e w4 ⟨rfl, hv⟩; have HR4 := am hv.rd; have HO4 := am hv.on; have HI4 := am hv.i; clear hv) | (go_at_call 27; (with_reducible refine (blanks_calls R s q2 (by omega) hq2 _ ?rd5b).mono ?_); (case rd5b => exact HR4.out); rintro e w5 ⟨rfl, hr, ho⟩; rw [HG3.out] at hr; have HR5 := am hr; have HO5 := am (HO4.out.trans ho); have HN5 := am ho; clear hr ho) | (go_at_call 39; (with_reducible refine (peek_ok R s q3 c HC.out _ ?rd6b).mono ?_); (case rd6b => exact HR5.out); rintro e w6 ⟨rfl, hb⟩; have HR6 := am (HR5.out.drawn hb); have HO6 := am (HO5.out.drawn hb); have HN6 := am (HN5.out.drawn hb); have c6 := HR6.out.c1; have f6 := HR6.out.f1; clear hb))
         go_end0
         exact SevEnds.ok HX.out ⟨HR6.out.set _, HO6.out.set _ _, HI.out _ _ _ _ _ (by omega) HI4.out (HN6.out.set _ _)⟩
       ·have HX := am h2
        have een := (beq_u8' c en).trans (decide_eq_false hcn)
        have ene := (bne_u8' c en).trans (congrArg (!·) (decide_eq_false hcn))
        have e44 : ((c.toNat : Int) != 44) = false := by rw [h44]; decide
        clear h2 hcn h44
        go_wp2_with (first | (go_at_call 68; (with_reducible refine (SevEnds.val_of (HC1.out b q _ _ hq HE.out HW.out) rfl).mono ?_); rintro e w4 ⟨rfl, hv⟩; have HR4 := am hv.rd; have HO4 := am hv.on; have HI4 := am hv.i; clear hv) | (go_at_call 27; (with_reducible refine (blanks_calls R s q2 (by omega) hq2 _ ?rd5c).mono ?_); (case rd5c => exact HR4.out); rintro e w5 ⟨rfl, hr, ho⟩; rw [HG3.out] at hr; have HR5 := am hr; have HO5 := am (HO4.out.trans ho); have HN5 := am ho; clear hr ho) | (go_at_call 39; (with_reducible refine (peek_ok R s q3 c HC.out _ ?rd6c).mono ?_); (case rd6c => exact HR5.out); rintro e w6 ⟨rfl, hb⟩; have HR6 := am (HR5.out.drawn hb); have HO6 := am (HO5.out.drawn hb); have HN6 := am (HN5.out.drawn hb); have c6 := HR6.out.c1; have f6 := HR6.out.f1; clear hb) | (go_at_call 27; (with_reducible refine (blanks_calls R s (q3 + 1) (by omega) (by omega) _ ?rd7).mono ?_); (case rd7 => exact HR6.out.set _); rintro e w7 ⟨rfl, hr, ho⟩; rw [HG4.out] at hr; have HR7 := am hr; have HO7 := am ((HO6.out.set _ _).trans ho); have HN7 := am ((HN6.out.set _ _).trans ho); clear hr ho))
        go_roundg g
        case measure => omega
        case rel => exact ⟨a', q4, hq4, HX, ⟨HR7.out, HO7.out, HI.out _ _ _ _ _ (by omega) HI4.out HN7.out⟩⟩
       ·have HX := am h2
        have een := (beq_u8' c en).trans (decide_eq_false hcn)
        have ene := (bne_u8' c en).trans (congrArg (!·) (decide_eq_false hcn))
        have e44 : ((c.toNat : Int) != 44) = true := (bne_u8' c 44).trans (congrArg (!·) (decide_eq_false h44))
        clear h2 hcn h44
        go_wp2_with (first | (go_at_call 68; (with_reducible refine (SevEnds.val_of (HC1.out b q _ _ hq HE.out HW.out) rfl).mono ?_); rintro e w4 ⟨rfl, hv⟩; have HR4 := am hv.rd; have HO4 := am hv.on; have HI4 := am hv.i; clear hv) | (go_at_call 27; (with_reducible refine (blanks_calls R s q2 (by omega) hq2 _ ?rd5d).mono ?_); (case rd5d => exact HR4.out); rintro e w5 ⟨rfl, hr, ho⟩; rw [HG3.out] at hr; have HR5 := am hr; have HO5 := am (HO4.out.trans ho); have HN5 := am ho; clear hr ho) | (go_at_call 39; (with_reducible refine (peek_ok R s q3 c HC.out _ ?rd6d).mono ?_); (case rd6d => exact HR5.out); rintro e w6 ⟨rfl, hb⟩; have HR6 := am (HR5.out.drawn hb); have HO6 := am (HO5.out.drawn hb); have HN6 := am (HN5.out.drawn hb); have c6 := HR6.out.c1; have f6 := HR6.out.f1; clear hb) | (go_at_call 29; (with_reducible refine (fail_calls _ _ _ _).mono ?_); rintro e w9 ⟨rfl, hb⟩; have HB9 := am hb; clear hb))
        exact ⟨rfl, SevEnds.no HX.out (HO6.out.drawn HB9.out)⟩
set_option maxRecDepth 1000000 in
set_option maxHeartbeats 4000000 in
theorem sevObj_calls {α : Type} (R : Nat) (s : ByteArray) (en : UInt8) (one : α → Nat → Option (Out α)) (I : α → Nat → World → Prop) (W0 : World) (x0 x1 x2 x3 : Value)
  (hl : s.size ≤ 10000000000) (hI : ∀ a q q' W W', q ≤ q' → I a q W → On R W W' → I a q' W') (hle : ∀ a q a' q', q ≤ s.size → one a q = some (.val a' q') → q' ≤ s.size)
  (hone : ∀ a q o W, q ≤ s.size → one a q = some o → Inv R s W0 I a q W → Calls Tryd.prog 69 #[x0, x1, x2, x3] W (SevEnds R s W0 I o))
  (k : Nat) (a : α) (p : Nat) (o : Out α) (hp : p < s.size) (W : World) (h : Inv R s W0 I a p W) (hF : sevF one s.data.toList en k a p = some o) :
  Calls Tryd.prog 67 #[ptr R, .int .u8 en.toNat, .func (.func 69) #[] #[x0, x1, x2, x3]] W (SevEnds R s W0 I o) := by
 have HR1 := am (show RdB R s ((p + 1 : Nat) : Int) (W.setCell ⟨R, 1, none⟩ (.int .i64 ((p : Int) + 1))) from h.rd.set _)
 have HN1 := am (show On R W (W.setCell ⟨R, 1, none⟩ (.int .i64 ((p : Int) + 1))) from (On.refl R W).set 1 _)
 have HI := am hI
 have HL := am hle
 have HC1 := am hone
 have HV := am h
 have HF := am hF
 have c0 := h.rd.c1
 have f0 := h.rd.f1
 have hq1 := blanks_le s.data.toList (p + 1) (by rw [size_data]; omega)
 rw [size_data] at hq1
 have hge1 := blanks_ge s.data.toList (p + 1)
 clear hI hle hone h hF
 cases hc : s.data.toList[blanksF s.data.toList (p + 1)]? with
 | none =>
  have hps : s.size ≤ blanksF s.data.toList (p + 1) := by rw [List.getElem?_eq_none_iff, size_data] at hc; exact hc
  have HX := am (show o = .err 3 s.size by have := HF.out; simp only [sevF, hc] at this; injection this with this; rw [← this, size_data])
  clear hc
  generalize hgen : blanksF s.data.toList (p + 1) = q1 at *
  have GEN := am hgen
  clear hgen
  go_enter Tryd.func67, Tryd.ntmps67
  go_wp2_with (first | (go_at_call 27; (with_reducible refine (blanks_calls R s (p + 1) (by omega) (by omega) _ ?rd1).mono ?_); (case rd1 => exact HR1.out); rintro e w1 ⟨rfl, hr, ho⟩; (try rw [GEN.out] at hr); have HR2 := am hr; have HO2 := am (HV.out.on.trans (HN1.out.trans ho)); have HN2 := am (HN1.out.trans ho); clear hr ho) | (go_at_call 39; (with_reducible refine (peek_short R s q1 hps _ ?rd2).mono ?_); (case rd2 => exact HR2.out); rintro e w2 ⟨rfl, hb⟩; have HB := am hb; clear hb))
  exact ⟨rfl, SevEnds.no HX.out (HO2.out.drawn HB.out)⟩
 | some c =>
  have HC := am hc
  by_cases hcn : c = en
  ·have HX := am (show o = .val a (blanksF s.data.toList (p + 1) + 1) by have := HF.out; simp only [sevF, hc, if_pos hcn] at this; injection this with this; exact this.symm)
   have een := (beq_u8' c en).trans (decide_eq_true hcn)
   have hlt := at_lt' hc
   clear hc hcn
   generalize hgen : blanksF s.data.toList (p + 1) = q1 at *
   have GEN := am hgen
   clear hgen
   go_enter Tryd.func67, Tryd.ntmps67
   go_wp2_with (first | (go_at_call 27; (with_reducible refine (blanks_calls R s (p + 1) (by omega) (by omega) _ ?rd1).mono ?_); (case rd1 => exact HR1.out); rintro e w1 ⟨rfl, hr, ho⟩; (try rw [GEN.out] at hr); have HR2 := am hr; have HO2 := am (HV.out.on.trans (HN1.out.trans ho)); have HN2 := am (HN1.out.trans ho); clear hr ho) | (go_at_call 39; (with_reducible refine (peek_ok R s q1 c HC.out _ ?rd2).mono ?_); (case rd2 => exact HR2.out); rintro e w2 ⟨rfl, hb⟩; have HR3 := am (HR2.out.drawn hb); have HO3 := am (HO2.out.drawn hb); have HN3 := am (HN2.out.drawn hb); have c3 := HR3.out.c1; have f3 := HR3.out.f1; clear hb))
   go_end0
   exact SevEnds.ok HX.out ⟨HR3.out.set _, HO3.out.set _ _, HI.out _ _ _ _ _ (by omega) HV.out.i (HN3.out.set _ _)⟩
  ·have HX := am (show sevL one s.data.toList en k a (blanksF s.data.toList (p + 1)) = some o by have := HF.out; simp only [sevF, hc, if_neg hcn] at this; exact this)
   have een := (beq_u8' c en).trans (decide_eq_false hcn)
   have hlt := at_lt' hc
   clear hc hcn HF
   generalize hgen : blanksF s.data.toList (p + 1) = q1 at *
   have GEN := am hgen
   clear hgen
   go_enter Tryd.func67, Tryd.ntmps67
   go_wp2_with (first | (go_at_call 27; (with_reducible refine (blanks_calls R s (p + 1) (by omega) (by omega) _ ?rd1).mono ?_); (case rd1 => exact HR1.out); rintro e w1 ⟨rfl, hr, ho⟩; (try rw [GEN.out] at hr); have HR2 := am hr; have HO2 := am (HV.out.on.trans (HN1.out.trans ho)); have HN2 := am (HN1.out.trans ho); clear hr ho) | (go_at_call 39; (with_reducible refine (peek_ok R s q1 c HC.out _ ?rd2).mono ?_); (case rd2 => exact HR2.out); rintro e w2 ⟨rfl, hb⟩; have HR3 := am (HR2.out.drawn hb); have HO3 := am (HO2.out.drawn hb); have HN3 := am (HN2.out.drawn hb); clear hb))
   go_loopg [] k (fun g wr => ∃ (b : α) (q : Nat), q ≤ s.size ∧ Aside0 (sevL one s.data.toList en g b q = some o) ∧ Aside0 (Inv R s W0 I b q wr))
   case atStart => exact ⟨a, q1, hq1, HX, ⟨HR3.out, HO3.out, HI.out _ _ _ _ _ (by omega) HV.out.i HN3.out⟩⟩
   case round =>
    obtain ⟨b, q, hq, HF, HW⟩ := hrel
    clear HR1 HN1 HV HC een HX HR2 HO2 HN2 HR3 HO3 HN3 c0 f0 hlt hq1 hp hge1
    cases gk with
    | zero => exact absurd HF.out (by simp [sevL])
    | succ g =>
     rcases sevL_item _ _ _ _ _ _ _ HF.out with ⟨e, p1, h1, h2⟩ | ⟨a', q2, h1, h2⟩
     ·have HE := am h1
      have HX := am h2
      clear h1 h2
      go_wp2_with (go_at_call 69; (with_reducible refine (SevEnds.err_of (HC1.out b q _ _ hq HE.out HW.out) rfl).mono ?_); rintro e w3 ⟨rfl, ho⟩; have HO4 := am ho; clear ho)
      exact ⟨rfl, SevEnds.no HX.out HO4.out⟩
     ·have HE := am h1
      have hq2 := HL.out _ _ _ _ hq h1
      have hq3 := blanks_le s.data.toList q2 (by rw [size_data]; omega)
      rw [size_data] at hq3
      have hge3 := blanks_ge s.data.toList q2
      clear h1
      rcases h2 with ⟨hc, h2⟩ | ⟨c, hc, h2⟩
      ·have hps : s.size ≤ blanksF s.data.toList q2 := by rw [List.getElem?_eq_none_iff, size_data] at hc; exact hc
       have HX := am (h2.trans (by rw [size_data]))
       clear hc h2
       generalize hg3 : blanksF s.data.toList q2 = q3 at *
       have HG3 := am hg3
       clear hg3
       go_wp2_with (first | (go_at_call 69; (with_reducible refine (SevEnds.val_of (HC1.out b q _ _ hq HE.out HW.out) rfl).mono ?_); rintro e w4 ⟨rfl, hv⟩; have HR4 := am hv.rd; have HO4 := am hv.on; have HI4 := am hv.i; clear hv) | (go_at_call 27; (with_reducible refine (blanks_calls R s q2 (by omega) hq2 _ ?rd5).mono ?_); (case rd5 => exact HR4.out); rintro e w5 ⟨rfl, hr, ho⟩; rw [HG3.out] at hr; have HR5 := am hr; have HO5 := am (HO4.out.trans ho); have HN5 := am ho; clear hr ho) | (go_at_call 39; (with_reducible refine (peek_short R s q3 hps _ ?rd6).mono ?_); (case rd6 => exact HR5.out); rintro e w6 ⟨rfl, hb⟩; have HB := am hb; clear hb))
       exact ⟨rfl, SevEnds.no HX.out (HO5.out.drawn HB.out)⟩
      ·have HC := am hc
       have hlt := at_lt' hc
       clear hc
       have hq4 := blanks_le s.data.toList (blanksF s.data.toList q2 + 1) (by rw [size_data]; omega)
       rw [size_data] at hq4
       have hge4 := blanks_ge s.data.toList (blanksF s.data.toList q2 + 1)
       generalize hg4 : blanksF s.data.toList (blanksF s.data.toList q2 + 1) = q4 at *
       generalize hg3 : blanksF s.data.toList q2 = q3 at *
       have HG3 := am hg3
       have HG4 := am hg4
       clear hg3 hg4
       rcases h2 with ⟨hcn, h2⟩ | ⟨hcn, h44, h2⟩ | ⟨hcn, h44, h2⟩
       ·have HX := am h2
        have een := (beq_u8' c en).trans (decide_eq_true hcn)
        have ene := (bne_u8' c en).trans (congrArg (!·) (decide_eq_true hcn))
        have e44 : ((c.toNat : Int) != 44) = false ∨ ((c.toNat : Int) != 44) = true := by cases ((c.toNat : Int) != 44); exact .inl rfl; exact .inr rfl
        clear h2 hcn
        rcases e44 with e44 | e44
        ·skip
         go_wp2_with (first | (go_at_call 69; (with_reducible refine (SevEnds.val_of (HC1.out b q _ _ hq HE.out HW.out) rfl).mono ?_); rintro e w4 ⟨rfl, hv⟩; have HR4 := am hv.rd; have HO4 := am hv.on; have HI4 := am hv.i; clear hv) | (go_at_call 27; (with_reducible refine (blanks_calls R s q2 (by omega) hq2 _ ?rd5).mono ?_); (case rd5 => exact HR4.out); rintro e w5 ⟨rfl, hr, ho⟩; rw [HG3.out] at hr; have HR5 := am hr; have HO5 := am (HO4.out.trans ho); have HN5 := am ho; clear hr ho) | (go_at_call 39; (with_reducible refine (peek_ok R s q3 c HC.out _ ?rd6).mono ?_); (case rd6 => exact HR5.out); rintro e w6 ⟨rfl, hb⟩; have HR6 := am (HR5.out.drawn hb); have HO6 := am (HO5.out.drawn hb); have HN6 := am (HN5.out.drawn hb); have c6 := HR6.out.c1; have f6 := HR6.out.f1; clear hb))
         go_end0
         exact SevEnds.ok HX.out ⟨HR6.out.set _, HO6.out.set _ _, HI.out _ _ _ _ _ (by omega) HI4.out (HN6.out.set _ _)⟩
        ·skip
         go_wp2_with (first | (go_at_call 69; (with_reducible refine (SevEnds.val_of (HC1.out b q _ _ hq HE.out HW.out) rfl).mono ?_); rintro e w4 ⟨rfl, hv⟩; have HR4 := am hv.rd; have HO4 := am hv.on; have HI4 := am hv.i; clear hv) | (go_at_call 27; (with_reducible refine (blanks_calls R s q2 (by omega) hq2 _ ?rd5b).mono ?_); (case rd5b => exact HR4.out); rintro e w5 ⟨rfl, hr, ho⟩; rw [HG3.out] at hr; have HR5 := am hr; have HO5 := am (HO4.out.trans ho); have HN5 := am ho; clear hr ho) | (go_at_call 39; (with_reducible refine (peek_ok R s q3 c HC.out _ ?rd6b).mono ?_); (case rd6b => exact HR5.out); rintro e w6 ⟨rfl, hb⟩; have HR6 := am (HR5.out.drawn hb); have HO6 := am (HO5.out.drawn hb); have HN6 := am (HN5.out.drawn hb); have c6 := HR6.out.c1; have f6 := HR6.out.f1; clear hb))
         go_end0
         exact SevEnds.ok HX.out ⟨HR6.out.set _, HO6.out.set _ _, HI.out _ _ _ _ _ (by omega) HI4.out (HN6.out.set _ _)⟩
       ·have HX := am h2
        have een := (beq_u8' c en).trans (decide_eq_false hcn)
        have ene := (bne_u8' c en).trans (congrArg (!·) (decide_eq_false hcn))
        have e44 : ((c.toNat : Int) != 44) = false := by rw [h44]; decide
        clear h2 hcn h44
        go_wp2_with (first | (go_at_call 69; (with_reducible refine (SevEnds.val_of (HC1.out b q _ _ hq HE.out HW.out) rfl).mono ?_); rintro e w4 ⟨rfl, hv⟩; have HR4 := am hv.rd; have HO4 := am hv.on; have HI4 := am hv.i; clear hv) | (go_at_call 27; (with_reducible refine (blanks_calls R s q2 (by omega) hq2 _ ?rd5c).mono ?_); (case rd5c => exact HR4.out); rintro e w5 ⟨rfl, hr, ho⟩; rw [HG3.out] at hr; have HR5 := am hr; have HO5 := am (HO4.out.trans ho); have HN5 := am ho; clear hr ho) | (go_at_call 39; (with_reducible refine (peek_ok R s q3 c HC.out _ ?rd6c).mono ?_); (case rd6c => exact HR5.out); rintro e w6 ⟨rfl, hb⟩; have HR6 := am (HR5.out.drawn hb); have HO6 := am (HO5.out.drawn hb); have HN6 := am (HN5.out.drawn hb); have c6 := HR6.out.c1; have f6 := HR6.out.f1; clear hb) | (go_at_call 27; (with_reducible refine (blanks_calls R s (q3 + 1) (by omega) (by omega) _ ?rd7).mono ?_); (case rd7 => exact HR6.out.set _); rintro e w7 ⟨rfl, hr, ho⟩; rw [HG4.out] at hr; have HR7 := am hr; have HO7 := am ((HO6.out.set _ _).trans ho); have HN7 := am ((HN6.out.set _ _).trans ho); clear hr ho))
        go_roundg g
        case measure => omega
        case rel => exact ⟨a', q4, hq4, HX, ⟨HR7.out, HO7.out, HI.out _ _ _ _ _ (by omega) HI4.out HN7.out⟩⟩
       ·have HX := am h2
        have een := (beq_u8' c en).trans (decide_eq_false hcn)
        have ene := (bne_u8' c en).trans (congrArg (!·) (decide_eq_false hcn))
        have e44 : ((c.toNat : Int) != 44) = true := (bne_u8' c 44).trans (congrArg (!·) (decide_eq_false h44))
        clear h2 hcn h44
        go_wp2_with (first | (go_at_call 69; (with_reducible refine (SevEnds.val_of (HC1.out b q _ _ hq HE.out HW.out) rfl).mono ?_); rintro e w4 ⟨rfl, hv⟩; have HR4 := am hv.rd; have HO4 := am hv.on; have HI4 := am hv.i; clear hv) | (go_at_call 27; (with_reducible refine (blanks_calls R s q2 (by omega) hq2 _ ?rd5d).mono ?_); (case rd5d => exact HR4.out); rintro e w5 ⟨rfl, hr, ho⟩; rw [HG3.out] at hr; have HR5 := am hr; have HO5 := am (HO4.out.trans ho); have HN5 := am ho; clear hr ho) | (go_at_call 39; (with_reducible refine (peek_ok R s q3 c HC.out _ ?rd6d).mono ?_); (case rd6d => exact HR5.out); rintro e w6 ⟨rfl, hb⟩; have HR6 := am (HR5.out.drawn hb); have HO6 := am (HO5.out.drawn hb); have HN6 := am (HN5.out.drawn hb); have c6 := HR6.out.c1; have f6 := HR6.out.f1; clear hb) | (go_at_call 29; (with_reducible refine (fail_calls _ _ _ _).mono ?_); rintro e w9 ⟨rfl, hb⟩; have HB9 := am hb; clear hb))
        exact ⟨rfl, SevEnds.no HX.out (HO6.out.drawn HB9.out)⟩
theorem litE_ge (l : List UInt8) (i : Nat) : i ≤ (litE l i).1 := by
 by_cases hq : l[i]? = some 101 ∨ l[i]? = some 69
 ·rw [litE_yes _ _ hq]
  by_cases hs : l[i + 1]? = some 43 ∨ l[i + 1]? = some 45
  ·rw [litX_yes _ _ hs]; split <;> simp only <;> omega
  ·rw [litX_no _ _ hs]; split <;> simp only <;> omega
 ·rw [litE_no _ _ hq]; exact Nat.le_refl _
theorem litD_ge (l : List UInt8) (i : Nat) : i ≤ (litD l i).1 := by
 unfold litD
 split
 ·split
  ·exact Nat.le_succ _
  ·exact Nat.le_trans (by omega) (litE_ge l _)
 ·exact litE_ge l i
theorem litF_pos (l : List UInt8) (h : (litF l).2 = true) : 1 ≤ (litF l).1 := by
 revert h
 show (if l[lit0 l]? = some 48 then litD l (lit0 l + 1) else if digsF (l.drop (lit0 l)) = 0 then (lit0 l, false) else litD l (lit0 l + digsF (l.drop (lit0 l)))).2 = true → 1 ≤ (if l[lit0 l]? = some 48 then litD l (lit0 l + 1) else if digsF (l.drop (lit0 l)) = 0 then (lit0 l, false) else litD l (lit0 l + digsF (l.drop (lit0 l)))).1
 intro h
 split at h
 ·rename_i h1
  rw [if_pos h1]
  exact Nat.le_trans (by omega) (litD_ge l _)
 ·rename_i h1
  rw [if_neg h1]
  split at h
  ·cases h
  ·rename_i h2
   rw [if_neg h2]
   exact Nat.le_trans (by omega) (litD_ge l _)
theorem numberF_val (s : List UInt8) (p q : Nat) (t : List UInt8) (hp : p ≤ s.length) (h : numberF s p = .val t q) : p < q ∧ q ≤ s.length := by
 unfold numberF at h
 have h1 := litF_le (s.drop p)
 rw [List.length_drop] at h1
 split at h
 ·rename_i h2
  have h3 := litF_pos _ h2
  injection h with _ h
  omega
 ·split at h <;> cases h
theorem wordF_val (s : List UInt8) : ∀ (w : List UInt8) (p q : Nat) (u : Unit), p ≤ s.length → wordF s w p = .val u q → q = p + w.length ∧ q ≤ s.length
 | [], p, q, u, hp, h => by
  simp only [wordF] at h
  injection h with _ h
  exact ⟨h.symm, by omega⟩
 | c :: w, p, q, u, hp, h => by
  cases hc : s[p]? with
  | none => rw [wordF_short _ _ _ _ hc] at h; cases h
  | some x =>
   have hlt := (List.getElem?_eq_some_iff.1 hc).1
   by_cases hx : x = c
   ·rw [wordF_on _ _ _ _ (by rw [hc, hx])] at h
    obtain ⟨h1, h2⟩ := wordF_val s w _ _ _ (by omega) h
    exact ⟨by rw [h1, List.length_cons]; omega, h2⟩
   ·rw [wordF_bad _ _ _ _ _ hc hx] at h; cases h
theorem textF_val (s : List UInt8) : ∀ (k : Nat) (out : List UInt8) (p q : Nat) (t : List UInt8), textF s k out p = some (.val t q) → p < q ∧ q ≤ s.length
 | 0, out, p, q, t, h => by simp [textF] at h
 | k + 1, out, p, q, t, h => by
  cases hc : s[p]? with
  | none => rw [textF_short _ _ _ _ hc] at h; injection h with h; cases h
  | some c =>
   have hlt := (List.getElem?_eq_some_iff.1 hc).1
   by_cases h34 : c = 34
   ·rw [textF_end _ _ _ _ _ hc h34] at h
    injection h with h
    injection h with _ h
    omega
   ·by_cases h32 : c.toNat < 32
    ·rw [textF_low _ _ _ _ _ hc h32] at h; injection h with h; cases h
    ·by_cases h92 : c = 92
     ·rw [textF_esc _ _ _ _ _ hc h92] at h
      cases hes : escF s p with
      | err e q1 => rw [hes] at h; injection h with h; cases h
      | val r q1 =>
       rw [hes] at h
       obtain ⟨h1, h2, _⟩ := escF_val _ _ _ _ hes
       have := textF_val s k _ _ _ _ h
       omega
     ·by_cases h128 : c.toNat < 128
      ·rw [textF_ascii _ _ _ _ _ hc h34 h32 h92 h128] at h
       have := textF_val s k _ _ _ _ h
       omega
      ·rw [textF_rune _ _ _ _ _ hc h128] at h
       split at h
       ·split at h <;> (injection h with h; cases h)
       ·have := textF_val s k _ _ _ _ h
        omega
theorem sevL_val {α : Type} (one : α → Nat → Option (Out α)) (s : List UInt8) (en : UInt8) (hone : ∀ a q a' q', q ≤ s.length → one a q = some (.val a' q') → q < q' ∧ q' ≤ s.length) :
  ∀ (k : Nat) (a a' : α) (q q' : Nat), q ≤ s.length → sevL one s en k a q = some (.val a' q') → q < q' ∧ q' ≤ s.length
 | 0, a, a', q, q', hq, h => by simp [sevL] at h
 | k + 1, a, a', q, q', hq, h => by
  rcases sevL_item _ _ _ _ _ _ _ h with ⟨e, p, _, h2⟩ | ⟨b, q1, h1, h2⟩
  ·cases h2
  ·obtain ⟨h3, h4⟩ := hone _ _ _ _ hq h1
   have h5 := blanks_ge s q1
   rcases h2 with ⟨_, h2⟩ | ⟨c, hc, h2⟩
   ·cases h2
   ·have hlt := (List.getElem?_eq_some_iff.1 hc).1
    rcases h2 with ⟨_, h2⟩ | ⟨_, _, h2⟩ | ⟨_, _, h2⟩
    ·injection h2 with _ h2
     omega
    ·have h6 := blanks_ge s (blanksF s q1 + 1)
     have h7 := blanks_le s (blanksF s q1 + 1) (by omega)
     have := sevL_val one s en hone k _ _ _ _ h7 h2
     omega
    ·cases h2
theorem sevF_val {α : Type} (one : α → Nat → Option (Out α)) (s : List UInt8) (en : UInt8) (hone : ∀ a q a' q', q ≤ s.length → one a q = some (.val a' q') → q < q' ∧ q' ≤ s.length) (k : Nat) (a a' : α) (p q' : Nat) (hp : p < s.length)
  (h : sevF one s en k a p = some (.val a' q')) : p < q' ∧ q' ≤ s.length := by
 unfold sevF at h
 have h6 := blanks_ge s (p + 1)
 have h7 := blanks_le s (p + 1) (by omega)
 cases hc : s[blanksF s (p + 1)]? with
 | none => rw [hc] at h; injection h with h; cases h
 | some c =>
  have hlt := (List.getElem?_eq_some_iff.1 hc).1
  rw [hc] at h
  simp only at h
  split at h
  ·injection h with h
   injection h with _ h
   omega
  ·have := sevL_val one s en hone k _ _ _ _ h7 h
   omega
theorem map_val {α β : Type} (f : α → β) (o : Out α) (b : β) (q : Nat) (h : o.map f = .val b q) : ∃ a, o = .val a q ∧ b = f a := by
 cases o with
 | val a p => injection h with h1 h2; exact ⟨a, by rw [h2], h1.symm⟩
 | err e p => cases h
theorem omap_val {α β : Type} (f : α → β) (o : Option (Out α)) (b : β) (q : Nat) (h : o.map (Out.map f) = some (.val b q)) : ∃ a, o = some (.val a q) ∧ b = f a := by
 cases o with
 | none => cases h
 | some o =>
  injection h with h
  obtain ⟨a, h1, h2⟩ := map_val f o b q h
  exact ⟨a, by rw [h1], h2⟩
theorem omap_some {α β : Type} (f : α → β) (o : Option (Out α)) (o' : Out β) (h : o.map (Out.map f) = some o') : ∃ o1, o = some o1 ∧ o' = o1.map f := by
 cases o with
 | none => cases h
 | some o => injection h with h; exact ⟨o, rfl, h.symm⟩
theorem oneI_val (s : List UInt8) (v : Nat → Option (Out J)) (hv : ∀ q j q', q ≤ s.length → v q = some (.val j q') → q < q' ∧ q' ≤ s.length) (a : List J) (q : Nat) (a' : List J) (q' : Nat) (hq : q ≤ s.length) (h : oneI v a q = some (.val a' q')) : q < q' ∧ q' ≤ s.length := by
 obtain ⟨j, h1, _⟩ := omap_val _ _ _ _ h
 exact hv _ _ _ hq h1
theorem oneM_val (s : List UInt8) (k : Nat) (v : Nat → Option (Out J)) (hv : ∀ q j q', q ≤ s.length → v q = some (.val j q') → q < q' ∧ q' ≤ s.length) (a : List ByteArray × List J) (q : Nat) (a' : List ByteArray × List J) (q' : Nat) (hq : q ≤ s.length) (h : oneM v s k a q = some (.val a' q')) : q < q' ∧ q' ≤ s.length := by
 unfold oneM at h
 split at h
 ·injection h with h; cases h
 ·split at h
  ·split at h
   ·cases h
   ·injection h with h; cases h
   ·rename_i nm q1 ht
    have h1 := textF_val _ _ _ _ _ _ ht
    split at h
    ·injection h with h; cases h
    ·split at h
     ·injection h with h; cases h
     ·rename_i c hc
      have hlt := (List.getElem?_eq_some_iff.1 hc).1
      split at h
      ·obtain ⟨j, h2, _⟩ := omap_val _ _ _ _ h
       have h3 := blanks_ge s q1
       have h4 := blanks_ge s (blanksF s q1 + 1)
       have h5 := blanks_le s (blanksF s q1 + 1) (by omega)
       have := hv _ _ _ h5 h2
       omega
      ·injection h with h; cases h
  ·injection h with h; cases h
theorem valueF_val (s : List UInt8) (k : Nat) : ∀ (r p q : Nat) (j : J), p ≤ s.length → valueF s k r p = some (.val j q) → p < q ∧ q ≤ s.length
 | r, p, q, j, hp, h => by
  unfold valueF at h
  split at h
  ·injection h with h; cases h
  ·rename_i c hc
   have hlt := (List.getElem?_eq_some_iff.1 hc).1
   split at h
   ·injection h with h
    obtain ⟨a, h1, _⟩ := map_val _ _ _ _ h
    have := wordF_val s _ _ _ _ hp h1
    simp only [List.length_cons, List.length_nil] at this
    omega
   ·split at h
    ·injection h with h
     obtain ⟨a, h1, _⟩ := map_val _ _ _ _ h
     have := wordF_val s _ _ _ _ hp h1
     simp only [List.length_cons, List.length_nil] at this
     omega
    ·split at h
     ·injection h with h
      obtain ⟨a, h1, _⟩ := map_val _ _ _ _ h
      have := wordF_val s _ _ _ _ hp h1
      simp only [List.length_cons, List.length_nil] at this
      omega
     ·split at h
      ·injection h with h
       obtain ⟨a, h1, _⟩ := map_val _ _ _ _ h
       exact numberF_val s _ _ _ hp h1
      ·split at h
       ·obtain ⟨a, h1, _⟩ := omap_val _ _ _ _ h
        have := textF_val s _ _ _ _ _ h1
        omega
       ·split at h
        ·cases r with
         | zero => injection h with h; cases h
         | succ r =>
          simp only at h
          split at h
          ·obtain ⟨a, h1, _⟩ := omap_val _ _ _ _ h
           exact sevF_val _ s _ (fun a q a' q' hq => oneI_val s _ (fun q j q' hq => valueF_val s k r q q' j hq) a q a' q' hq) k _ _ _ _ hlt h1
          ·obtain ⟨a, h1, _⟩ := omap_val _ _ _ _ h
           exact sevF_val _ s _ (fun a q a' q' hq => oneM_val s k _ (fun q j q' hq => valueF_val s k r q q' j hq) a q a' q' hq) k _ _ _ _ hlt h1
        ·injection h with h; cases h
section
variable {α : Type}
end
end Go.Proofs.YtaalajhmfdcalaaDoor.X
namespace Go.Proofs.YtaalajhmfdcalaaDoor.X
open Go.RowKit Go.Lib Go.Proofs.YtaalajhmfdcalaaDoorW.PrintWords
structure Ag (s t : List UInt8) (q : Nat) : Prop where
 len : q ≤ s.length
 at_ : ∀ i, i < q → t[i]? = s[i]?
 end_ : t[q]? = none ∨ t[q]? = s[q]? ∨ ∃ z : UInt8, z ∈ ([0, 44, 93, 125] : List UInt8) ∧ t[q]? = some z
theorem Ag.le {s t : List UInt8} {q q' : Nat} (h : Ag s t q) (hq : q' ≤ q) : Ag s t q' := by
 refine ⟨Nat.le_trans hq h.len, fun i hi => h.at_ i (by omega), ?_⟩
 by_cases hh : q' = q
 ·subst hh; exact h.end_
 ·exact .inr (.inl (h.at_ q' (by omega)))
theorem Ag.take (s : List UInt8) (n q : Nat) (hn : n ≤ s.length) (hq : q ≤ n) : Ag s (s.take n) q := by
 refine ⟨by omega, fun i hi => by rw [List.getElem?_take_of_lt (by omega)], ?_⟩
 by_cases h : q < n
 ·exact .inr (.inl (by rw [List.getElem?_take_of_lt h]))
 ·exact .inl (by rw [List.getElem?_eq_none_iff, List.length_take]; omega)
theorem Ag.drop {s t : List UInt8} {p m : Nat} (h : Ag s t (p + m)) : Ag (s.drop p) (t.drop p) m := by
 refine ⟨by rw [List.length_drop]; have := h.len; omega, fun i hi => by rw [List.getElem?_drop, List.getElem?_drop]; exact h.at_ _ (by omega), ?_⟩
 rw [List.getElem?_drop, List.getElem?_drop]
 exact h.end_
theorem Ag.not {s t : List UInt8} {q : Nat} (h : Ag s t q) (P : UInt8 → Prop) (h0 : ∀ z : UInt8, z ∈ ([0, 44, 93, 125] : List UInt8) → ¬ P z) (hs : ¬ ∃ c, s[q]? = some c ∧ P c) : ¬ ∃ c, t[q]? = some c ∧ P c := by
 rintro ⟨c, hc, hp⟩
 rcases h.end_ with h1 | h1 | ⟨z, hz, h1⟩
 ·rw [h1] at hc; cases hc
 ·exact hs ⟨c, h1 ▸ hc, hp⟩
 ·rw [h1] at hc; injection hc with hc; subst hc; exact h0 _ hz hp
theorem Ag.ne {s t : List UInt8} {q : Nat} (h : Ag s t q) (c : UInt8) (h0 : c ∉ ([0, 44, 93, 125] : List UInt8)) (hs : ¬ s[q]? = some c) : ¬ t[q]? = some c := fun hh =>
 h.not (fun d => d = c) (fun z hz e => h0 (e ▸ hz)) (by rintro ⟨d, hd, rfl⟩; exact hs hd) ⟨c, hh, rfl⟩
theorem get_list (l : List UInt8) (i : Nat) : (ByteArray.mk l.toArray).get! i = (l[i]?).getD 0 := by
 show l.toArray[i]! = _
 by_cases h : i < l.length
 ·rw [List.getElem?_eq_getElem h]; simp [h]
 ·rw [List.getElem?_eq_none_iff.2 (by omega)]
  simp [h]
  rfl
theorem decG_eq (l : List UInt8) (h : 0 < l.length) : decodeGo ⟨l.toArray⟩ = decodeN l.length ((l[0]?).getD 0).toNat ((l[1]?).getD 0).toNat ((l[2]?).getD 0).toNat ((l[3]?).getD 0).toNat := by
 unfold decodeGo
 rw [if_neg (by show ¬ l.toArray.size = 0; simp; intro hh; rw [hh] at h; simp at h), decode_at]
 rw [get_list, get_list, get_list, get_list]
 show decodeN (l.toArray.size - 0) _ _ _ _ = _
 simp
section
variable {α : Type}
end
end Go.Proofs.YtaalajhmfdcalaaDoor.X
namespace Go.Proofs.YtaalajhmfdcalaaDoor.X
open Go.RowKit Go.Lib Go.Proofs.YtaalajhmfdcalaaDoorW.PrintWords
def Has (s : List UInt8) (p : Nat) (l : List UInt8) : Prop := ∃ post, s.drop p = l ++ post
theorem Has.at {s l : List UInt8} {p i : Nat} (h : Has s p l) (hi : i < l.length) : s[p + i]? = l[i]? := by
 obtain ⟨post, h⟩ := h
 rw [← List.getElem?_drop, h, List.getElem?_append_left hi]
theorem Has.left {s a b : List UInt8} {p : Nat} (h : Has s p (a ++ b)) : Has s p a := by
 obtain ⟨post, h⟩ := h
 exact ⟨b ++ post, by rw [h, List.append_assoc]⟩
theorem Has.right {s a b : List UInt8} {p : Nat} (h : Has s p (a ++ b)) : Has s (p + a.length) b := by
 obtain ⟨post, h⟩ := h
 exact ⟨post, by rw [← List.drop_drop, h, List.append_assoc, List.drop_left]⟩
theorem Has.cons {s l : List UInt8} {p : Nat} {c : UInt8} (h : Has s p (c :: l)) : s[p]? = some c ∧ Has s (p + 1) l :=
 ⟨by have := h.at (i := 0) (by simp); simpa using this, Has.right (a := [c]) h⟩
theorem Has.len {s l : List UInt8} {p : Nat} (h : Has s p l) (hl : 0 < l.length) : p + l.length ≤ s.length := by
 obtain ⟨post, h⟩ := h
 have := congrArg List.length h
 rw [List.length_drop, List.length_append] at this
 omega
def Stop (s : List UInt8) (q : Nat) : Prop := s[q]? = none ∨ ∃ z : UInt8, z ∈ ([0, 44, 93, 125] : List UInt8) ∧ s[q]? = some z
def qL : Nat → List UInt8 → List UInt8
 | 0, _ => []
 | n + 1, l => if l = [] then [] else (runeB (decodeL l).1).flatten ++ qL n (l.drop (decodeL l).2)
theorem decode_drop (s : ByteArray) (pos : Nat) (h : pos < s.size) : Utf8.decode s pos = decodeL (s.data.toList.drop pos) := by
 unfold decodeL
 have e : ∀ i, (ByteArray.mk (s.data.toList.drop pos).toArray).get! i = s.get! (pos + i) := fun i => by
  rw [get_list, List.getElem?_drop]
  exact (get_list s.data.toList (pos + i)).symm
 have es : (ByteArray.mk (s.data.toList.drop pos).toArray).size - 0 = s.size - pos := by
  show (s.data.toList.drop pos).toArray.size - 0 = _
  rw [List.size_toArray, List.length_drop, size_data]; rfl
 rw [decode_at s pos, decode_at ⟨(s.data.toList.drop pos).toArray⟩ 0, es, e 0, e (0 + 1), e (0 + 2), e (0 + 3)]
 simp
theorem quoteL_flat (s : ByteArray) : ∀ (k pos : Nat), (quoteL s k pos).flatten = qL k (s.data.toList.drop pos)
 | 0, pos => rfl
 | k + 1, pos => by
  by_cases h : pos < s.size
  ·rw [quoteL_on s k pos h, List.flatten_append, quoteL_flat s k, qL, if_neg (by intro hh; have := congrArg List.length hh; rw [List.length_drop, size_data] at this; simp at this; omega), ← decode_drop s pos h, List.drop_drop]
  ·rw [quoteL_end s (k + 1) pos h, qL, if_pos (by rw [List.drop_eq_nil_iff, size_data]; omega)]
   rfl
theorem quote_eq (b : ByteArray) : qB b = 34 :: (qL (b.size + 1) b.data.toList ++ [34]) := by
 unfold qB quoteB
 simp only [List.flatten_cons, List.flatten_append, quoteL_flat, List.flatten_nil, List.drop_zero]
 rfl
end Go.Proofs.YtaalajhmfdcalaaDoor.X
namespace Go.Proofs.YtaalajhmfdcalaaDoor.X
open Go.RowKit Go.Lib Go.Proofs.YtaalajhmfdcalaaDoorW.PrintWords Go.Proofs.YtaalajhmfdcalaaDoorW.PrintLast Go.Proofs.YtaalajhmfdcalaaDoorW.PrintMore
theorem On.new {R : Nat} {W0 W : World} (h : On R W0 W) (b k : Nat) (u : Value) (hb : W0.heap.size ≤ b) (hR : R ≤ W0.heap.size) : On R W0 (W.setCell ⟨b, k, none⟩ u) :=
 ⟨h.below.setCell (Nat.le_trans hR hb) _, fun c _ hl => (Below.heap_setCell _ _ _ _ (by show c ≠ b; omega)).trans (h.kept c ‹_› hl), by rw [World.size_setCell]; exact h.size⟩
theorem On.grownRow {R : Nat} {W0 W1 W2 : World} {row : Option Nat} (h : On R W0 W1) (hg : W1.grownBy W2 row) (hrow : ∀ g, row = some g → W0.heap.size ≤ g) (hR : R ≤ W0.heap.size) : On R W0 W2 := by
 refine ⟨?_, ?_, Nat.le_trans h.size hg.size⟩
 ·obtain ⟨a, b, c, d, e⟩ := h.below
  exact ⟨hg.os.trans a, hg.tape.trans b, hg.output.trans c, Nat.le_trans d hg.size, fun k hk => (hg.block k (by omega) (fun hh => by have := hrow k hh.symm; omega)).trans (e k hk)⟩
 ·intro b hb hl
  exact (hg.block b (Nat.lt_of_lt_of_le hl h.size) (fun hh => by have := hrow b hh.symm; omega)).trans (h.kept b hb hl)
theorem On.alloc {R : Nat} {W0 W : World} (h : On R W0 W) (hR : R ≤ W0.heap.size) (o : Obj) : On R W0 (W.alloc o) :=
 h.grownRow (row := none) (World.grownBy_alloc W o _) (fun _ h => by cases h) hR
def jV (B : Nat) (j : J) (v : Value) (W : World) : Prop := ∃ v2 v3, v = .agg #[.int .i64 j.f0, .string j.f1, v2, v3] ∧ Kd.string.R 9 W B (fun _ => True) v2 j.f2 ∧ k25.R 25 W B (fun k => some k ≠ v2.ownBlock) v3 j.f3
def ValOK (R : Nat) (s : ByteArray) (k r : Nat) (d : Int) : Prop :=
 ∀ q o W, q ≤ s.size → valueF s.data.toList k r q = some o → RdB R s q W → Tabs W → Calls Tryd.prog 28 #[ptr R, .int .i64 d] W (Ends R s W o (jV W.heap.size))
structure LSt (R B V PR PD : Nat) (d : Int) (l : List J) (sv : Value) (W : World) : Prop where
 v : W.heap[V]? = some (.cells #[.int .i64 5, .string ⟨#[]⟩, .slice none 0 0, sv] 25 (0, 0))
 r : W.heap[PR]? = some (.cells #[ptr R] 47 (0, 0))
 dd : W.heap[PD]? = some (.cells #[.int .i64 d] 3 (0, 0))
 items : k25.R 25 W B (fun k => k ≠ V) sv l
def LI (R B V PR PD : Nat) (d : Int) (l : List J) (q : Nat) (W : World) : Prop := l.length ≤ q ∧ ∃ sv, LSt R B V PR PD d l sv W
theorem blk_on {R : Nat} {W W' : World} {b : Nat} {o : Obj} (h : W.heap[b]? = some o) (hb : b ≠ R) (hO : On R W W') : W'.heap[b]? = some o :=
 (hO.kept b hb (lt_of_block h)).trans h
theorem R_on {α : Type} {dd : Kd α} {e R B : Nat} {W W' : World} {ok : Nat → Prop} {v : Value} {l : List α} (h : dd.R e W B ok v l) (hR : R < B) (hO : On R W W') : dd.R e W' B ok v l :=
 Kd.R_mono (Kd.R_step (Kd.R_bound h) (fun k hk hlt => hO.kept k (by have := hk.2.1; omega) hlt)) (fun _ hk => hk.1)
theorem LSt.on {R B V PR PD : Nat} {d : Int} {l : List J} {sv : Value} {W W' : World} (h : LSt R B V PR PD d l sv W) (hR : R < B) (hV : B ≤ V) (hPR : PR ≠ R) (hPD : PD ≠ R) (hO : On R W W') : LSt R B V PR PD d l sv W' :=
 ⟨blk_on h.v (by omega) hO, blk_on h.r hPR hO, blk_on h.dd hPD hO, R_on h.items hR hO⟩
theorem LI.on {R B V PR PD : Nat} {d : Int} {l : List J} {q q' : Nat} {W W' : World} (hq : q ≤ q') (h : LI R B V PR PD d l q W) (hR : R < B) (hV : B ≤ V) (hPR : PR ≠ R) (hPD : PD ≠ R) (hO : On R W W') : LI R B V PR PD d l q' W' := by
 obtain ⟨h1, sv, h2⟩ := h
 exact ⟨by omega, sv, h2.on hR hV hPR hPD hO⟩
theorem callP_ {P : Program} {ops : Array Oper} {Q : Exit → Act → World → Prop} {oi : Oper} {N : Option Tmp} {a : Act} {w : World} {K : Act → World → Prop} {f : FuncId} {fn : Func} {ag : Array Operand} {ts : Array TypeId} (hf : P.funcs[f]? = some fn) (hname : (fn.name == "runtime.NumGoroutine") = false) (hb : fn.body.isSome = true) (args : Array Value)
  (hw : Region.wanted oi (yielded ops a.tmps) = true) (hN : oi.dst = N) (hop : oi.op = .call { callee := .value (.func f), args := ag, argTypes := ts }) (hargs : ag.map a.eval = args)
  (h : Calls P f args w fun e w' => (∃ v, e = .returned v ∧ K (a.put N v) w') ∨ (∃ c, e = .panicked c ∧ Q (.panic c) a w')) : if Region.wanted oi (yielded ops a.tmps) = true then Oper.wp P oi a w K Q else K (a.put N undef) w := by
 have he := enters_ hf hname hb args w
 have hrun : (execOp a.eval oi).run P w = .ok (.enter f args) w := by
  unfold execOp
  simp [hop, resolve, Deferred.ofValue, invoke, Act.eval, hargs, he]
 rw [if_pos hw]
 subst hN
 unfold Oper.wp
 rw [hrun, Oper.upon_enter]
 refine h.mono fun e w'' hh => ?_
 rcases hh with ⟨v, rfl, hk⟩ | ⟨c, rfl, hk⟩
 ·exact hk
 ·exact hk
theorem app0_step {P : Program} {ops : Array Oper} {o : Oper} {a : Act} {K : Act → World → Prop} {Q : Exit → Act → World → Prop} {B : Nat} {W : World} (hw : Region.wanted o (yielded ops a.tmps) = true) (s x : Operand) (t e : TypeId) (z : Value) (size bytes : Nat)
  (ho : o.op = .call { callee := .builtin .append, args := #[s, x], argTypes := #[t, t] }) (ht : P.underlying t = some (.slice e)) (hinfo : (P.info? e).map (fun i => (i.zero, i.size, i.bytes)) = some (some z, size, bytes)) (hz : z.cells.size = size) (hs0 : 0 < size) (hb0 : 0 < bytes)
  (v : Value) (n : Nat) (xs ys : List Value) (g : Nat) (hs : a.eval s = v) (hx : a.eval x = .slice (some ⟨g, 0, none⟩) 1 1) (hys : ys.length = size) (h1 : ∀ u ∈ ys, u.oneCell' = true) (hg : W.heap[g]? = some (.cells ys.toArray e (0, 0)))
  (HO : W.ownsRow B e size v n xs) (hbase : B ≤ W.heap.size) (hl : (n + 1) * bytes ≤ 140737488355328)
  (h : ∀ v1 w1, w1.ownsRow B e size v1 (n + 1) (xs ++ ys) → W.grownBy w1 v.ownBlock → (v1.ownBlock = v.ownBlock ∨ v1.ownBlock = some W.heap.size) → K (a.put o.dst v1) w1) {N : Option Tmp} :
  if Region.wanted o (yielded ops a.tmps) = true then Oper.wp P o a W K Q else K (a.put N undef) W := by
 obtain ⟨i0, hi, hzz⟩ := Option.map_eq_some_iff.1 hinfo
 simp only [Prod.mk.injEq] at hzz
 obtain ⟨hz0, hz1, hz2⟩ := hzz
 have hlen : n + 1 ≤ 140737488355328 := Nat.le_trans (Nat.le_mul_of_pos_right _ hb0) hl
 rw [if_pos hw]
 obtain ⟨v1, w1, hr, hown, hgr, _, hat⟩ := run_append_own_at (P := P) W B t o.type e i0 z size bytes ht hi hz0 hz1 hz2 hz hs0 v n xs HO ⟨g, 0, none⟩ 1 1 ys (by rw [hys]; simp)
  (by simpa using World.news_of_block (cs := ys.toArray) (t := e) (fr := (0, 0)) hg) h1 (by simp only [maxLen]; omega) hl hbase
 unfold Oper.wp execOp
 simp only [ho, resolve, invoke, builtin, Sem.run_bind, Sem.run_pure, Result.andThen_ok, List.map_toArray, List.map_cons, List.map_nil, hs, hx, hr]
 exact h v1 w1 hown hgr hat
theorem set4 (xs : List Value) (n : Nat) (hx : xs.length = n * 4) (z0 z1 z2 z3 c0 c1 c2 c3 : Value) : ((((xs ++ [z0, z1, z2, z3]).set (n * 4) c0).set (n * 4 + 1) c1).set (n * 4 + 2) c2).set (n * 4 + 3) c3 = xs ++ [c0, c1, c2, c3] := by
 rw [← hx]
 rw [List.set_append_right _ _ (Nat.le_refl _), List.set_append_right _ _ (by omega), List.set_append_right _ _ (by omega), List.set_append_right _ _ (by omega)]
 simp
theorem twoL_ {P : Program} {ops : Array Oper} {Q : Exit → Act → World → Prop} {md : Region.Mode} {S : World → Prop} {ds : List Nat} {i j : Nat} {Ni Nj : Option Tmp} {oi oj : Oper} {fuel : Nat} {l : Array Bool} {a : Act} {w : World} (li lj : Array Bool) (hi : ops[i]? = some oi) (hj : ops[j]? = some oj) (hNi : oi.dst = Ni) (hNj : oj.dst = Nj)
  (hc : (Region.ready md ops l == [i, j] && l.setIfInBounds i true == li && l.setIfInBounds j true == lj) = true) (hdi : i ∈ ds) (hdj : j ∈ ds)
  (h1 : ∀ K : Act → World → Prop, Shut (∀ a' w', wpAnyLast P md ops Q S ds fuel li a' w' → K a' w') → if Region.wanted oi (yielded ops a.tmps) = true then Oper.wp P oi a w K Q else K (a.put Ni undef) w)
  (h2 : ∀ K : Act → World → Prop, Shut (∀ a' w', wpAnyLast P md ops Q S ds fuel lj a' w' → K a' w') → if Region.wanted oj (yielded ops a.tmps) = true then Oper.wp P oj a w K Q else K (a.put Nj undef) w) :
  wpAnyLast P md ops Q S ds (fuel + 1) l a w := by
 subst hNi
 subst hNj
 simp only [Bool.and_eq_true, beq_iff_eq] at hc
 obtain ⟨⟨h3, h4⟩, h5⟩ := hc
 subst h4
 subst h5
 exact wpAnyLast_ready h3 (by simp) (AllReadyL.cons_last hi hdi (fun K hK => h1 K hK) (AllReadyL.cons_last hj hdj (fun K hK => h2 K hK) AllReadyL.nil))
theorem setCell_comm (w : World) (p q : Addr) (u v : Value) (h : p.block ≠ q.block) : (w.setCell p u).setCell q v = (w.setCell q v).setCell p u := by
 unfold World.setCell
 simp only
 congr 1
 apply Array.ext
 ·simp
 ·intro i h1 h2
  simp only [Array.getElem_modify]
  by_cases hp : p.block = i
  ·by_cases hq : q.block = i
   ·exact absurd (hp.trans hq.symm) h
   ·simp [hp, hq]
  ·by_cases hq : q.block = i
   ·simp [hp, hq]
   ·simp [hp, hq]
abbrev set4W (w : World) (g n : Nat) (c0 c1 c2 c3 : Value) : World := (((w.setCell ⟨g, n * 4, none⟩ c0).setCell ⟨g, n * 4 + 1, none⟩ c1).setCell ⟨g, n * 4 + 2, none⟩ c2).setCell ⟨g, n * 4 + 3, none⟩ c3
theorem set4W_comm (w : World) (V g n : Nat) (u c0 c1 c2 c3 : Value) (h : g ≠ V) : set4W (w.setCell ⟨V, 3, none⟩ u) g n c0 c1 c2 c3 = (set4W w g n c0 c1 c2 c3).setCell ⟨V, 3, none⟩ u := by
 unfold set4W
 rw [setCell_comm _ ⟨V, 3, none⟩ ⟨g, n * 4, none⟩ _ _ (Ne.symm h), setCell_comm _ ⟨V, 3, none⟩ ⟨g, n * 4 + 1, none⟩ _ _ (Ne.symm h), setCell_comm _ ⟨V, 3, none⟩ ⟨g, n * 4 + 2, none⟩ _ _ (Ne.symm h), setCell_comm _ ⟨V, 3, none⟩ ⟨g, n * 4 + 3, none⟩ _ _ (Ne.symm h)]
theorem set4W_heap (w : World) (g n b : Nat) (c0 c1 c2 c3 : Value) (h : b ≠ g) : (set4W w g n c0 c1 c2 c3).heap[b]? = w.heap[b]? := by
 unfold set4W
 rw [Below.heap_setCell _ _ _ _ h, Below.heap_setCell _ _ _ _ h, Below.heap_setCell _ _ _ _ h, Below.heap_setCell _ _ _ _ h]
theorem set4W_size (w : World) (g n : Nat) (c0 c1 c2 c3 : Value) : (set4W w g n c0 c1 c2 c3).heap.size = w.heap.size := by
 unfold set4W
 rw [World.size_setCell, World.size_setCell, World.size_setCell, World.size_setCell]
theorem items_fin {R B V g1 c1 : Nat} {ok : Nat → Prop} (hokV : ∀ k, ok k → k ≠ V) {l : List J} {j : J} {sv a0 a1 a2 u0 u1 u2 u3 : Value} {s : ByteArray} {q1 : Int} {W0 W w5 w6 : World} {inner : List Value} (hB : B = W0.heap.size)
  (hRB : R < W0.heap.size) (hV : W0.heap.size ≤ V) (hVW : V < W.heap.size) (hI : k25.R 25 W B ok sv l) (hokN : ∀ k, W.heap.size ≤ k → ok k) (hO5 : On R W w5)
  (hrep : Reps (k25.M w5 B (fun k => ok k ∧ some k ≠ sv.ownBlock)) 4 l inner) (hil : inner.length = l.length * 4) (h0 : ∀ k, sv.ownBlock = some k → ok k)
  (hM5 : k25.M w5 B (fun b => W.heap.size ≤ b) j [u0, u1, u2, u3])
  (hown : w6.ownsRow B 25 4 (.slice (some ⟨g1, 0, none⟩) (l.length + 1) c1) (l.length + 1) (inner ++ [.int .i64 0, .string ⟨#[]⟩, .slice none 0 0, .slice none 0 0]))
  (hg : w5.grownBy w6 sv.ownBlock) (hat : Value.ownBlock (.slice (some ⟨g1, 0, none⟩) (l.length + 1) c1) = sv.ownBlock ∨ Value.ownBlock (.slice (some ⟨g1, 0, none⟩) (l.length + 1) c1) = some w5.heap.size)
  (hV6 : w6.heap[V]? = some (.cells #[a0, a1, a2, sv] 25 (0, 0))) (hO6 : On R W0 w6) (hR6 : RdB R s q1 w6) (hV1 : g1 ≠ V) :
  let fin := (set4W w6 g1 l.length u0 u1 u2 u3).setCell ⟨V, 3, none⟩ (.slice (some ⟨g1, 0, none⟩) (l.length + 1) c1)
  fin.heap[V]? = some (.cells #[a0, a1, a2, .slice (some ⟨g1, 0, none⟩) (l.length + 1) c1] 25 (0, 0)) ∧ k25.R 25 fin B ok (.slice (some ⟨g1, 0, none⟩) (l.length + 1) c1) (l ++ [j]) ∧ On R W0 fin ∧ RdB R s q1 fin ∧ (∀ b, b ≠ V → b ≠ g1 → fin.heap[b]? = w6.heap[b]?) := by
 subst hB
 have hgB : W0.heap.size ≤ g1 := own_base hown g1 rfl
 have hgR : R ≠ g1 := by omega
 intro fin
 have hkeep : ∀ b, b ≠ V → b ≠ g1 → fin.heap[b]? = w6.heap[b]? := fun b h1 h2 => (Below.heap_setCell _ _ _ _ h1).trans (set4W_heap _ _ _ _ _ _ _ _ h2)
 refine ⟨?_, ?_, ?_, ?_, hkeep⟩
 ·have h1 := blk_set 3 (.slice (some ⟨g1, 0, none⟩) (l.length + 1) c1) ((set4W_heap w6 g1 l.length V u0 u1 u2 u3 (Ne.symm hV1)).trans hV6)
  exact h1
 ·have s0 := (hown.stored (l.length * 4) u0).1
  have s1 := (s0.stored (l.length * 4 + 1) u1).1
  have s2 := (s1.stored (l.length * 4 + 2) u2).1
  have s3 := (s2.stored (l.length * 4 + 3) u3).1
  rw [set4 inner l.length hil] at s3
  have hgr : w5.grownBy (set4W w6 g1 l.length u0 u1 u2 u3) sv.ownBlock := by
   refine ⟨hg.os, hg.tape, hg.output, by rw [set4W_size]; exact hg.size, fun k hk hne => ?_⟩
   have hkg : k ≠ g1 := by
    intro hh
    rcases hat with ha | ha
    ·exact hne (by rw [hh]; exact ha)
    ·have ha : some g1 = some w5.heap.size := ha
     injection ha with ha
     omega
   exact (set4W_heap _ _ _ _ _ _ _ _ hkg).trans (hg.block k hk hne)
  have hRR : k25.R 25 (set4W w6 g1 l.length u0 u1 u2 u3) W0.heap.size ok (.slice (some ⟨g1, 0, none⟩) (l.length + 1) c1) (l ++ [j]) := by
   refine Kd.R_appended (ok := ok) h0 hrep hM5 (fun k hk => ⟨hokN k hk, fun hh => ?_⟩) (fun k hk => hokN k ?_) s3 hgr ?_
   ·have := Kd.R_lt hI k hh.symm
    omega
   ·have := hO5.size
    omega
   ·rcases hat with ha | ha
    ·exact .inl ha
    ·exact .inr ⟨_, ha, Nat.le_refl _⟩
  exact Kd.R_far hRR hokV _
 ·have h1 : On R W0 (set4W w6 g1 l.length u0 u1 u2 u3) := ((((hO6.new g1 _ _ hgB (Nat.le_of_lt hRB)).new g1 _ _ hgB (Nat.le_of_lt hRB)).new g1 _ _ hgB (Nat.le_of_lt hRB)).new g1 _ _ hgB (Nat.le_of_lt hRB))
  exact h1.new V 3 _ hV (Nat.le_of_lt hRB)
 ·exact (hkeep R (by omega) hgR).trans hR6
theorem jV_M {W' : World} {B B' N : Nat} {j : J} {v2 v3 : Value} (g2 : Kd.string.R 9 W' B (fun _ => True) v2 j.f2) (g3 : k25.R 25 W' B (fun k => some k ≠ v2.ownBlock) v3 j.f3) (h1 : B' ≤ B) (h2 : N ≤ B) :
  k25.M W' B' (fun b => N ≤ b) j [.int .i64 j.f0, .string j.f1, v2, v3] :=
 k25_mkM W' B' _ j (Kd.R_lower (Kd.R_mono (Kd.R_bound g2) (fun _ hk => Nat.le_trans h2 hk.2.1)) h1) (Kd.R_lower (Kd.R_mono (Kd.R_bound g3) (fun _ hk => Nat.le_trans h2 hk.2.1)) h1)
theorem Kd.M_below {α : Type} {dd : Kd α} {w w1 : World} {B : Nat} {ok : Nat → Prop} {x : α} {cs : List Value} (h : dd.M w B ok x cs) (hb : Below w.heap.size w w1) : dd.M w1 B ok x cs :=
 Kd.M_step h (fun k _ hk => hb.block k hk)
theorem own_form {w : World} {B : Nat} {e : TypeId} {size n : Nat} {v : Value} {xs : List Value} (h : w.ownsRow B e size v n xs) (hn : 0 < n) : ∃ g c, v = .slice (some ⟨g, 0, none⟩) n c := by
 rcases h.2 with ⟨_, h2⟩ | ⟨g, cap, cur, rfl, _⟩
 ·omega
 ·exact ⟨g, cap, rfl⟩
theorem M_slices {w : World} {B : Nat} {ok : Nat → Prop} {j : J} {v2 v3 : Value} (h : k25.M w B ok j [.int .i64 j.f0, .string j.f1, v2, v3]) : ∃ A2 c2 A3 c3, v2 = .slice A2 j.f2.length c2 ∧ v3 = .slice A3 j.f3.length c3 := by
 obtain ⟨u2, u3, e, g2, g3⟩ := k25_openM h
 obtain ⟨A2, c2, e2⟩ := Kd.R_slice g2
 obtain ⟨A3, c3, e3⟩ := Kd.R_slice g3
 have e4 : v2 = u2 := Option.some.inj (congrArg (fun l => l[2]?) e)
 have e5 : v3 = u3 := Option.some.inj (congrArg (fun l => l[3]?) e)
 exact ⟨A2, c2, A3, c3, e4.trans e2, e5.trans e3⟩
theorem LI_final {R V PR PD g1 c1 : Nat} {d : Int} {l : List J} {j : J} {s : ByteArray} {q1 : Nat} {W0 w6 fin : World} {ys : List Value} {a3 : Value}
  (hown : w6.ownsRow W0.heap.size 25 4 (.slice (some ⟨g1, 0, none⟩) (l.length + 1) c1) (l.length + 1) ys)
  (hV6 : w6.heap[V]? = some (.cells #[.int .i64 5, .string ⟨#[]⟩, .slice none 0 0, a3] 25 (0, 0))) (hP6 : w6.heap[PR]? = some (.cells #[ptr R] 47 (0, 0))) (hD6 : w6.heap[PD]? = some (.cells #[.int .i64 d] 3 (0, 0))) (hlen : l.length + 1 ≤ q1)
  (h : fin.heap[V]? = some (.cells #[.int .i64 5, .string ⟨#[]⟩, .slice none 0 0, .slice (some ⟨g1, 0, none⟩) (l.length + 1) c1] 25 (0, 0)) ∧ k25.R 25 fin W0.heap.size (fun k => k ≠ V) (.slice (some ⟨g1, 0, none⟩) (l.length + 1) c1) (l ++ [j]) ∧ On R W0 fin ∧ RdB R s q1 fin ∧ (∀ b, b ≠ V → b ≠ g1 → fin.heap[b]? = w6.heap[b]?)) :
  Inv R s W0 (LI R W0.heap.size V PR PD d) (l ++ [j]) q1 fin := by
 obtain ⟨h1, h2, h3, h4, h5⟩ := h
 obtain ⟨cg, hg⟩ := own_typed hown g1 rfl
 have n1 : PR ≠ V := by rintro rfl; rw [hV6] at hP6; cases hP6
 have n2 : PD ≠ V := by rintro rfl; rw [hV6] at hD6; cases hD6
 have n3 : PR ≠ g1 := by rintro rfl; rw [hg] at hP6; cases hP6
 have n4 : PD ≠ g1 := by rintro rfl; rw [hg] at hD6; cases hD6
 exact ⟨h4, h3, by rw [List.length_append, List.length_singleton]; exact hlen, _, ⟨h1, (h5 PR n1 n3).trans hP6, (h5 PD n2 n4).trans hD6, h2⟩⟩
theorem getz (xs : List Value) (n : Nat) (hx : xs.length = n * 4) (i : Nat) (hi : i < 4) : (xs ++ [Value.int .i64 0, .string ⟨#[]⟩, .slice none 0 0, .slice none 0 0])[n * 4 + i]? = [Value.int .i64 0, .string ⟨#[]⟩, .slice none 0 0, .slice none 0 0][i]? := by
 rw [List.getElem?_append_right (by omega)]
 congr 1
 omega
set_option maxRecDepth 1000000 in
set_option maxHeartbeats 4000000 in
theorem list1_err (R : Nat) (s : ByteArray) (k r V PR PD : Nat) (d p0 : Int) (W0 : World) (hl : s.size ≤ 10000000000) (hR0 : RdB R s p0 W0) (hT : Tabs W0) (hV : W0.heap.size ≤ V) (hPR : PR ≠ R) (hPD : PD ≠ R) (hVal : ValOK R s k r (wrap64 (d + 1)))
  (l : List J) (q : Nat) (o : Out (List J)) (W : World) (hq : q ≤ s.size) (hF : oneI (valueF s.data.toList k r) l q = some o) (h : Inv R s W0 (LI R W0.heap.size V PR PD d) l q W) (e q1 : Nat) (hE : valueF s.data.toList k r q = some (.err e q1)) :
  Calls Tryd.prog 68 #[.pointer (some ⟨V, 0, none⟩), .pointer (some ⟨PR, 0, none⟩), .pointer (some ⟨PD, 0, none⟩)] W (SevEnds R s W0 (LI R W0.heap.size V PR PD d) o) := by
 obtain ⟨hR, hO, hlq, sv, hS⟩ := h
 have HT := am (fun (w : World) (ho : On R W w) => hT.on hR0 (hO.trans ho))
 obtain ⟨A, c, e⟩ := Kd.R_slice hS.items
 subst e
 have HR := am hR
 have HOW := am hO
 have HS := am hS
 have HRB := am hR0.lt
 have HRW := am hR.lt
 have HVal := am hVal
 clear hR hO hS hR0 hT hVal
 have HX := am (show o = .err e q1 by unfold oneI at hF; rw [hE] at hF; injection hF with hF; exact hF.symm)
 have HE := am hE
 clear hF hE
 go_enter Tryd.func68, Tryd.ntmps68
 refine start_ (n := 13) (S := fun w' => w'.cell? ⟨V, 3, none⟩ = some (.slice A l.length c) ∧ w'.cell? ⟨PR, 0, none⟩ = some (ptr R) ∧ w'.cell? ⟨PD, 0, none⟩ = some (.int .i64 d)) (ds := [10, 12]) #[false, false, false, false, false, false, false, false, false, false, false, false, false] (by kernel_rfl) rfl rfl ⟨(blk_cell HS.out.v 3).trans rfl, (blk_cell HS.out.r 0).trans rfl, (blk_cell HS.out.dd 0).trans rfl⟩ (fun hHeld => ?_)
 have HR2 := am (show RdB R s q W.drew from HR.out.drew)
 have HO2 := am (show On R W W.drew from (On.refl R W).drewN 1)
 generalize W.drew = w2 at HR2 HO2 hHeld ⊢
 have HS2 := am (HS.out.on HRB.out hV hPR hPD HO2.out)
 refine pure_ (i := 0) (N := some 3) (v := ?_) (a' := ?_) #[true, false, false, false, false, false, false, false, false, false, false, false, false] rfl rfl (by kernel_rfl) (fun _ _ _ h => h) (Or.inl ⟨by rfl, ?_⟩) ?_ ?_
 rotate_left
 ·intro w'
  go_simp
  with_reducible rfl
 rotate_left
 ·simp only [Act.put, sAx, sZx, sSx, i64_w, i32_w]
  rfl
 refine take_ (i := 1) (N := some 4) (v := ?_) (a' := ?_) #[true, true, false, false, false, false, false, false, false, false, false, false, false] rfl rfl (by kernel_rfl) (fun _ _ _ h => h) (Or.inl ⟨by rfl, ?_⟩) hHeld ?_ ?_
 rotate_left
 ·rintro w' ⟨s0, s1, s2⟩
  go_simp
  with_reducible rfl
 rotate_left
 ·simp only [Act.put, sAx, sZx, sSx, i64_w, i32_w]
  rfl
 refine take_ (i := 2) (N := some 5) (v := ?_) (a' := ?_) #[true, true, true, false, false, false, false, false, false, false, false, false, false] rfl rfl (by kernel_rfl) (fun _ _ _ h => h) (Or.inl ⟨by rfl, ?_⟩) hHeld ?_ ?_
 rotate_left
 ·rintro w' ⟨s0, s1, s2⟩
  go_simp
  with_reducible rfl
 rotate_left
 ·simp only [Act.put, sAx, sZx, sSx, i64_w, i32_w]
  rfl
 refine take_ (i := 3) (N := some 6) (v := ?_) (a' := ?_) #[true, true, true, true, false, false, false, false, false, false, false, false, false] rfl rfl (by kernel_rfl) (fun _ _ _ h => h) (Or.inl ⟨by rfl, ?_⟩) hHeld ?_ ?_
 rotate_left
 ·rintro w' ⟨s0, s1, s2⟩
  go_simp
  with_reducible rfl
 rotate_left
 ·simp only [Act.put, sAx, sZx, sSx, i64_w, i32_w]
  rfl
 refine pure_ (i := 4) (N := some 7) (v := ?_) (a' := ?_) #[true, true, true, true, true, false, false, false, false, false, false, false, false] rfl rfl (by kernel_rfl) (fun _ _ _ h => h) (Or.inl ⟨by rfl, ?_⟩) ?_ ?_
 rotate_left
 ·intro w'
  go_simp
  with_reducible rfl
 rotate_left
 ·simp only [Act.put, sAx, sZx, sSx, i64_w, i32_w]
  rfl
 refine pure_ (i := 6) (N := some 9) (v := ?_) (a' := ?_) #[true, true, true, true, true, false, true, false, false, false, false, false, false] rfl rfl (by kernel_rfl) (fun _ _ _ h => h) (Or.inl ⟨by rfl, ?_⟩) ?_ ?_
 rotate_left
 ·intro w'
  go_simp
  with_reducible rfl
 rotate_left
 ·simp only [Act.put, sAx, sZx, sSx, i64_w, i32_w]
  rfl
 refine two_ (i := 5) (j := 7) (Ni := some 8) (Nj := some 10) #[true, true, true, true, true, true, true, false, false, false, false, false, false] #[true, true, true, true, true, false, true, true, false, false, false, false, false] rfl rfl rfl rfl (by kernel_rfl) (by decide) (by decide) (fun K hK => ?_) (fun K hK => ?_)
 ·refine callP_ Tryd.func28 (by kernel_rfl) rfl #[ptr R, .int .i64 (wrap64 (d + 1))] (by rfl) rfl rfl (by (try simp only [List.map_toArray, List.map_cons, List.map_nil]); first | done | rfl) ?_
  refine (Calls.err_of (HVal.out q _ _ hq HE.out HR2.out (HT.out _ HO2.out)) rfl).mono ?_
  rintro e w3 ⟨rfl, ho⟩
  exact .inr ⟨_, rfl, rfl, SevEnds.no HX.out (HOW.out.trans (HO2.out.trans ho))⟩
 ·refine value_ (w1 := ?_) (v := ?_) (by rfl) rfl ?_ ?_
  rotate_left 2
  ·go_simp
   constructor
   ·rfl
   ·rfl
  have HO3 := am (HO2.out.alloc (Nat.le_of_lt HRW.out) (Obj.cells #[.int .i64 0, .string ⟨#[]⟩, .slice none 0 0, .slice none 0 0] 25))
  have HR3 := am (HR2.out.below (below_alloc (Below.refl _ _) (Obj.cells #[.int .i64 0, .string ⟨#[]⟩, .slice none 0 0, .slice none 0 0] 25)))
  have HS3 := am (HS.out.on HRB.out hV hPR hPD HO3.out)
  refine hK.out _ _ ⟨(blk_cell HS3.out.v 3).trans rfl, (blk_cell HS3.out.r 0).trans rfl, (blk_cell HS3.out.dd 0).trans rfl⟩ (fun hHeld => ?_)
  clear hK K
  refine norm_ (a' := ?_) ?_ ?_
  rotate_left
  ·show Act.put _ (some 10) _ = _
   simp only [Act.put, sAx, sZx, sSx, i64_w, i32_w]
   rfl
  refine one_ (i := 5) (N := some 8) #[true, true, true, true, true, true, true, true, false, false, false, false, false] rfl rfl (by kernel_rfl) (by decide) (fun K hK => ?_)
  refine callP_ Tryd.func28 (by kernel_rfl) rfl #[ptr R, .int .i64 (wrap64 (d + 1))] (by rfl) rfl rfl (by (try simp only [List.map_toArray, List.map_cons, List.map_nil]); first | done | rfl) ?_
  refine (Calls.err_of (HVal.out q _ _ hq HE.out HR3.out (HT.out _ HO3.out)) rfl).mono ?_
  rintro e w3 ⟨rfl, ho⟩
  exact .inr ⟨_, rfl, rfl, SevEnds.no HX.out (HOW.out.trans (HO3.out.trans ho))⟩
set_option maxRecDepth 1000000 in
set_option maxHeartbeats 4000000 in
theorem list1_val (R : Nat) (s : ByteArray) (k r V PR PD : Nat) (d p0 : Int) (W0 : World) (hl : s.size ≤ 10000000000) (hR0 : RdB R s p0 W0) (hT : Tabs W0) (hV : W0.heap.size ≤ V) (hPR : PR ≠ R) (hPD : PD ≠ R) (hVal : ValOK R s k r (wrap64 (d + 1)))
  (l : List J) (q : Nat) (o : Out (List J)) (W : World) (hq : q ≤ s.size) (hF : oneI (valueF s.data.toList k r) l q = some o) (h : Inv R s W0 (LI R W0.heap.size V PR PD d) l q W) (j : J) (q1 : Nat) (hE : valueF s.data.toList k r q = some (.val j q1)) (hq1 : q < q1) :
  Calls Tryd.prog 68 #[.pointer (some ⟨V, 0, none⟩), .pointer (some ⟨PR, 0, none⟩), .pointer (some ⟨PD, 0, none⟩)] W (SevEnds R s W0 (LI R W0.heap.size V PR PD d) o) := by
 obtain ⟨hR, hO, hlq, sv, hS⟩ := h
 have HT := am (fun (w : World) (ho : On R W w) => hT.on hR0 (hO.trans ho))
 obtain ⟨A, c, e⟩ := Kd.R_slice hS.items
 subst e
 have HR := am hR
 have HOW := am hO
 have HS := am hS
 have HRB := am hR0.lt
 have HRW := am hR.lt
 have HVal := am hVal
 clear hR hO hS hR0 hT hVal
 have HX := am (show o = .val (l ++ [j]) q1 by unfold oneI at hF; rw [hE] at hF; injection hF with hF; exact hF.symm)
 have HE := am hE
 clear hF hE
 go_enter Tryd.func68, Tryd.ntmps68
 refine start_ (n := 13) (S := fun w' => w'.cell? ⟨V, 3, none⟩ = some (.slice A l.length c) ∧ w'.cell? ⟨PR, 0, none⟩ = some (ptr R) ∧ w'.cell? ⟨PD, 0, none⟩ = some (.int .i64 d)) (ds := [10, 12]) #[false, false, false, false, false, false, false, false, false, false, false, false, false] (by kernel_rfl) rfl rfl ⟨(blk_cell HS.out.v 3).trans rfl, (blk_cell HS.out.r 0).trans rfl, (blk_cell HS.out.dd 0).trans rfl⟩ (fun hHeld => ?_)
 have HR2 := am (show RdB R s q W.drew from HR.out.drew)
 have HO2 := am (show On R W W.drew from (On.refl R W).drewN 1)
 generalize W.drew = w2 at HR2 HO2 hHeld ⊢
 have HS2 := am (HS.out.on HRB.out hV hPR hPD HO2.out)
 refine pure_ (i := 0) (N := some 3) (v := ?_) (a' := ?_) #[true, false, false, false, false, false, false, false, false, false, false, false, false] rfl rfl (by kernel_rfl) (fun _ _ _ h => h) (Or.inl ⟨by rfl, ?_⟩) ?_ ?_
 rotate_left
 ·intro w'
  go_simp
  with_reducible rfl
 rotate_left
 ·simp only [Act.put, sAx, sZx, sSx, i64_w, i32_w]
  rfl
 refine take_ (i := 1) (N := some 4) (v := ?_) (a' := ?_) #[true, true, false, false, false, false, false, false, false, false, false, false, false] rfl rfl (by kernel_rfl) (fun _ _ _ h => h) (Or.inl ⟨by rfl, ?_⟩) hHeld ?_ ?_
 rotate_left
 ·rintro w' ⟨s0, s1, s2⟩
  go_simp
  with_reducible rfl
 rotate_left
 ·simp only [Act.put, sAx, sZx, sSx, i64_w, i32_w]
  rfl
 refine take_ (i := 2) (N := some 5) (v := ?_) (a' := ?_) #[true, true, true, false, false, false, false, false, false, false, false, false, false] rfl rfl (by kernel_rfl) (fun _ _ _ h => h) (Or.inl ⟨by rfl, ?_⟩) hHeld ?_ ?_
 rotate_left
 ·rintro w' ⟨s0, s1, s2⟩
  go_simp
  with_reducible rfl
 rotate_left
 ·simp only [Act.put, sAx, sZx, sSx, i64_w, i32_w]
  rfl
 refine take_ (i := 3) (N := some 6) (v := ?_) (a' := ?_) #[true, true, true, true, false, false, false, false, false, false, false, false, false] rfl rfl (by kernel_rfl) (fun _ _ _ h => h) (Or.inl ⟨by rfl, ?_⟩) hHeld ?_ ?_
 rotate_left
 ·rintro w' ⟨s0, s1, s2⟩
  go_simp
  with_reducible rfl
 rotate_left
 ·simp only [Act.put, sAx, sZx, sSx, i64_w, i32_w]
  rfl
 refine pure_ (i := 4) (N := some 7) (v := ?_) (a' := ?_) #[true, true, true, true, true, false, false, false, false, false, false, false, false] rfl rfl (by kernel_rfl) (fun _ _ _ h => h) (Or.inl ⟨by rfl, ?_⟩) ?_ ?_
 rotate_left
 ·intro w'
  go_simp
  with_reducible rfl
 rotate_left
 ·simp only [Act.put, sAx, sZx, sSx, i64_w, i32_w]
  rfl
 refine pure_ (i := 6) (N := some 9) (v := ?_) (a' := ?_) #[true, true, true, true, true, false, true, false, false, false, false, false, false] rfl rfl (by kernel_rfl) (fun _ _ _ h => h) (Or.inl ⟨by rfl, ?_⟩) ?_ ?_
 rotate_left
 ·intro w'
  go_simp
  with_reducible rfl
 rotate_left
 ·simp only [Act.put, sAx, sZx, sSx, i64_w, i32_w]
  rfl
 refine join_ (σ := Value × Value × Nat) 5 #[true, true, true, true, true, true, true, true, false, false, false, false, false] (fun s_ => [(8, .agg #[.int .i64 j.f0, .string j.f1, s_.1, s_.2.1]), (10, .slice (some ⟨s_.2.2, 0, none⟩) 1 1)]) (fun s_ w' => RdB R s q1 w' ∧ On R W w' ∧ k25.M w' W0.heap.size (fun b => W.heap.size ≤ b) j [.int .i64 j.f0, .string j.f1, s_.1, s_.2.1] ∧ w'.heap[s_.2.2]? = some (.cells #[.int .i64 0, .string ⟨#[]⟩, .slice none 0 0, .slice none 0 0] 25 (0, 0))) ?_ ?_
 rotate_left
 ·intro hCont
  refine two_ (i := 5) (j := 7) (Ni := some 8) (Nj := some 10) #[true, true, true, true, true, true, true, false, false, false, false, false, false] #[true, true, true, true, true, false, true, true, false, false, false, false, false] rfl rfl rfl rfl (by kernel_rfl) (by decide) (by decide) (fun K hK => ?_) (fun K hK => ?_)
  ·refine callP_ Tryd.func28 (by kernel_rfl) rfl #[ptr R, .int .i64 (wrap64 (d + 1))] (by rfl) rfl rfl (by (try simp only [List.map_toArray, List.map_cons, List.map_nil]); first | done | rfl) ?_
   refine (Calls.val_of (HVal.out q _ _ hq HE.out HR2.out (HT.out _ HO2.out)) rfl).mono ?_
   rintro e w3 ⟨v, rfl, ⟨v2, v3, rfl, g2, g3⟩, hr, ho⟩
   refine .inl ⟨_, rfl, ?_⟩
   have HO3 := am (HO2.out.trans ho)
   have HR3 := am hr
   have HM3 := am (jV_M (B' := W0.heap.size) (N := W.heap.size) g2 g3 (Nat.le_trans HOW.out.size HO2.out.size) HO2.out.size)
   have HS3 := am (HS.out.on HRB.out hV hPR hPD HO3.out)
   clear hr ho g2 g3
   refine hK.out _ _ ⟨(blk_cell HS3.out.v 3).trans rfl, (blk_cell HS3.out.r 0).trans rfl, (blk_cell HS3.out.dd 0).trans rfl⟩ (fun hHeld => ?_)
   clear hK K
   refine norm_ (a' := ?_) ?_ ?_
   rotate_left
   ·show Act.put _ (some 8) _ = _
    simp only [Act.put, sAx, sZx, sSx, i64_w, i32_w]
    rfl
   refine one_ (i := 7) (N := some 10) #[true, true, true, true, true, true, true, true, false, false, false, false, false] rfl rfl (by kernel_rfl) (by decide) (fun K hK => ?_)
   refine value_ (w1 := ?_) (v := ?_) (by rfl) rfl ?_ ?_
   rotate_left 2
   ·go_simp
    constructor
    ·rfl
    ·rfl
   have HO4 := am (HO3.out.alloc (Nat.le_of_lt HRW.out) (Obj.cells #[.int .i64 0, .string ⟨#[]⟩, .slice none 0 0, .slice none 0 0] 25))
   have HR4 := am (HR3.out.below (below_alloc (Below.refl _ _) (Obj.cells #[.int .i64 0, .string ⟨#[]⟩, .slice none 0 0, .slice none 0 0] 25)))
   have HM4 := am (Kd.M_below HM3.out (below_alloc (Below.refl _ _) (Obj.cells #[.int .i64 0, .string ⟨#[]⟩, .slice none 0 0, .slice none 0 0] 25)))
   have HS4 := am (HS.out.on HRB.out hV hPR hPD HO4.out)
   refine hK.out _ _ ⟨(blk_cell HS4.out.v 3).trans rfl, (blk_cell HS4.out.r 0).trans rfl, (blk_cell HS4.out.dd 0).trans rfl⟩ (fun hHeld => ?_)
   clear hK K
   refine norm_ (a' := ?_) ?_ ?_
   rotate_left
   ·show Act.put _ (some 10) _ = _
    simp only [Act.put, sAx, sZx, sSx, i64_w, i32_w]
    rfl
   exact norm_ (by simp only [putAll, Act.put, sAx, sZx, sSx]) (hCont (v2, v3, w3.heap.size) _ ⟨HR4.out, HO4.out, HM4.out, heap_alloc_new _ _⟩)
  ·refine value_ (w1 := ?_) (v := ?_) (by rfl) rfl ?_ ?_
   rotate_left 2
   ·go_simp
    constructor
    ·rfl
    ·rfl
   have HO3 := am (HO2.out.alloc (Nat.le_of_lt HRW.out) (Obj.cells #[.int .i64 0, .string ⟨#[]⟩, .slice none 0 0, .slice none 0 0] 25))
   have HR3 := am (HR2.out.below (below_alloc (Below.refl _ _) (Obj.cells #[.int .i64 0, .string ⟨#[]⟩, .slice none 0 0, .slice none 0 0] 25)))
   have HG3 := am (heap_alloc_new w2 (Obj.cells #[.int .i64 0, .string ⟨#[]⟩, .slice none 0 0, .slice none 0 0] 25))
   have HS3 := am (HS.out.on HRB.out hV hPR hPD HO3.out)
   refine hK.out _ _ ⟨(blk_cell HS3.out.v 3).trans rfl, (blk_cell HS3.out.r 0).trans rfl, (blk_cell HS3.out.dd 0).trans rfl⟩ (fun hHeld => ?_)
   clear hK K
   refine norm_ (a' := ?_) ?_ ?_
   rotate_left
   ·show Act.put _ (some 10) _ = _
    simp only [Act.put, sAx, sZx, sSx, i64_w, i32_w]
    rfl
   refine one_ (i := 5) (N := some 8) #[true, true, true, true, true, true, true, true, false, false, false, false, false] rfl rfl (by kernel_rfl) (by decide) (fun K hK => ?_)
   refine callP_ Tryd.func28 (by kernel_rfl) rfl #[ptr R, .int .i64 (wrap64 (d + 1))] (by rfl) rfl rfl (by (try simp only [List.map_toArray, List.map_cons, List.map_nil]); first | done | rfl) ?_
   refine (Calls.val_of (HVal.out q _ _ hq HE.out HR3.out (HT.out _ HO3.out)) rfl).mono ?_
   rintro e w4 ⟨v, rfl, ⟨v2, v3, rfl, g2, g3⟩, hr, ho⟩
   refine .inl ⟨_, rfl, ?_⟩
   have HO4 := am (HO3.out.trans ho)
   have HR4 := am hr
   have HM4 := am (jV_M (B' := W0.heap.size) (N := W.heap.size) g2 g3 (Nat.le_trans HOW.out.size HO3.out.size) HO3.out.size)
   have HS4 := am (HS.out.on HRB.out hV hPR hPD HO4.out)
   have HG4 := am (blk_on HG3.out (by have := HO2.out.size; have := HRW.out; omega) ho)
   clear hr ho g2 g3
   refine hK.out _ _ ⟨(blk_cell HS4.out.v 3).trans rfl, (blk_cell HS4.out.r 0).trans rfl, (blk_cell HS4.out.dd 0).trans rfl⟩ (fun hHeld => ?_)
   clear hK K
   refine norm_ (a' := ?_) ?_ ?_
   rotate_left
   ·show Act.put _ (some 8) _ = _
    simp only [Act.put, sAx, sZx, sSx, i64_w, i32_w]
    rfl
   exact norm_ (by simp only [putAll, Act.put, sAx, sZx, sSx]) (hCont (v2, v3, w2.heap.size) _ ⟨HR4.out, HO4.out, HM4.out, HG4.out⟩)
 ·rintro ⟨v2, v3, g⟩ w5 ⟨hR5, hO5, hM5, hG5⟩
  dsimp only at hM5 hG5
  obtain ⟨A2, c2, A3, c3, e2, e3⟩ := M_slices hM5
  subst e2 e3
  simp only [putAll, Act.put, sAx, sZx, sSx]
  have HR5 := am hR5
  have HO5 := am hO5
  have HM5 := am hM5
  have HG5 := am hG5
  have HS5 := am (HS.out.on HRB.out hV hPR hPD hO5)
  clear hR5 hO5 hM5 hG5 HR2 HO2 HS2 hHeld
  have hI5 := HS5.out.items
  obtain ⟨inner, hown, hrep⟩ := hI5.2
  have HIN := am (show w5.ownsRow W0.heap.size 25 4 (.slice A l.length c) l.length inner from hown)
  have HRP := am hrep
  have hil : inner.length = l.length * 4 := hrep.1
  have HI5 := am hI5
  clear hown hrep hI5
  refine one_ (i := 8) (N := some 11) #[true, true, true, true, true, true, true, true, true, false, false, false, false] rfl rfl (by kernel_rfl) (by decide) (fun K hK => ?_)
  refine app0_step (B := W0.heap.size) rfl (.tmp 4) (.tmp 10) 23 25 (.agg #[(.int .i64 0), (.string ⟨#[]⟩), (.slice none 0 0), (.slice none 0 0)]) 4 72 rfl Tryd.underlying23 info25 rfl (by decide) (by decide) (.slice A l.length c) l.length inner [.int .i64 0, .string ⟨#[]⟩, .slice none 0 0, .slice none 0 0] g rfl rfl rfl (by intro u hu; simp only [List.mem_cons, List.not_mem_nil, or_false] at hu; rcases hu with rfl | rfl | rfl | rfl <;> rfl) HG5.out HIN.out (Nat.le_trans HOW.out.size HO5.out.size) (by omega) ?_
  intro v1 w6 hown1 hg hat
  obtain ⟨g1, c1, e1⟩ := own_form hown1 (by omega)
  subst e1
  have HON := am hown1
  have HAT := am hat
  have HGR := am hg
  have HV6 := am (blk_grown (o := .cells #[.int .i64 5, .string ⟨#[]⟩, .slice none 0 0, .slice A l.length c] 25 (0, 0)) HS5.out.v hg (Kd.R_away HI5.out (fun _ hk => hk)))
  have HP6 := am (blk_grown (o := .cells #[ptr R] 47 (0, 0)) HS5.out.r hg (Kd.R_ne HI5.out HS5.out.r (by decide)))
  have HD6 := am (blk_grown (o := .cells #[.int .i64 d] 3 (0, 0)) HS5.out.dd hg (Kd.R_ne HI5.out HS5.out.dd (by decide)))
  have HO6 := am (HOW.out.trans HO5.out |>.grownRow hg (fun b hb => Kd.R_base HI5.out b hb) (Nat.le_of_lt HRB.out))
  have HR6 := am (show RdB R s q1 w6 from (hg.block R HR5.out.lt (fun hh => by have := Kd.R_base HI5.out R hh.symm; have := HRB.out; omega)).trans HR5.out)
  have hV1 : g1 ≠ V := by
   intro hgv
   rcases HAT.out with ha | ha
   ·exact Kd.R_away HI5.out (fun _ hk => hk) (hgv ▸ ha)
   ·have ha : some g1 = some w5.heap.size := ha
    injection ha with ha
    have := lt_of_block HS5.out.v
    omega
  have hgR : g1 ≠ R := by
   have h1 := own_base hown1 g1 rfl
   have := HRB.out
   omega
  have z0 : w6.cell? ⟨g1, l.length * 4, none⟩ = some (.int .i64 0) := (hown1.cellAt (l.length * 4) (by omega)).trans (getz inner l.length hil 0 (by omega))
  have z1 : w6.cell? ⟨g1, l.length * 4 + 1, none⟩ = some (.string ⟨#[]⟩) := (hown1.cellAt (l.length * 4 + 1) (by omega)).trans (getz inner l.length hil 1 (by omega))
  have z2 : w6.cell? ⟨g1, l.length * 4 + 2, none⟩ = some (.slice none 0 0) := (hown1.cellAt (l.length * 4 + 2) (by omega)).trans (getz inner l.length hil 2 (by omega))
  have z3 : w6.cell? ⟨g1, l.length * 4 + 3, none⟩ = some (.slice none 0 0) := (hown1.cellAt (l.length * 4 + 3) (by omega)).trans (getz inner l.length hil 3 (by omega))
  have y0 := hown1.frozenAt (l.length * 4)
  have y1 := hown1.frozenAt (l.length * 4 + 1)
  have y2 := hown1.frozenAt (l.length * 4 + 2)
  have y3 := hown1.frozenAt (l.length * 4 + 3)
  have x3 : w6.cell? ⟨V, 3, none⟩ = some (.slice A l.length c) := (blk_cell HV6.out 3).trans rfl
  have hV2 : V ≠ g1 := Ne.symm hV1
  have xf := blk_free HV6.out 3
  clear hown1 hg hat
  refine hK.out _ _ ⟨(blk_cell HV6.out 3).trans rfl, (blk_cell HP6.out 0).trans rfl, (blk_cell HD6.out 0).trans rfl⟩ (fun hHeld => ?_)
  clear hK K
  refine norm_ (a' := ?_) ?_ ?_
  rotate_left
  ·show Act.put _ (some 11) _ = _
   simp only [Act.put, sAx, sZx, sSx, i64_w, i32_w]
   rfl
  have b0 : (0 : Int) ≤ (l.length : Int) := by omega
  have b1 : (l.length : Int) < ((l.length + 1 : Nat) : Int) := by omega
  have b2 : (l.length : Int) < (l.length : Int) + 1 := by omega
  refine pure_ (i := 9) (N := some 12) (v := ?_) (a' := ?_) #[true, true, true, true, true, true, true, true, true, true, false, false, false] rfl rfl (by kernel_rfl) (fun _ _ _ h => h) (Or.inl ⟨by rfl, ?_⟩) ?_ ?_
  rotate_left
  ·intro w'
   go_simp
   with_reducible rfl
  rotate_left
  ·simp only [Act.put, sAx, sZx, sSx, i64_w, i32_w]
   rfl
  refine pure_ (i := 11) (N := some 13) (v := ?_) (a' := ?_) #[true, true, true, true, true, true, true, true, true, true, false, true, false] rfl rfl (by kernel_rfl) (fun _ _ _ h => h) (Or.inl ⟨by rfl, ?_⟩) ?_ ?_
  rotate_left
  ·intro w'
   go_simp
   with_reducible rfl
  rotate_left
  ·simp only [Act.put, sAx, sZx, sSx, i64_w, i32_w]
   rfl
  have FIN := am (items_fin (j := j) (ok := fun k => k ≠ V) (fun _ hk => hk) rfl HRB.out hV (lt_of_block HS.out.v) HS.out.items (fun k hk => by have := lt_of_block HS.out.v; omega) HO5.out HRP.out hil HI5.out.1 HM5.out HON.out HGR.out HAT.out HV6.out HO6.out HR6.out hV1)
  refine twoL_ (i := 10) (j := 12) (Ni := none) (Nj := none) #[true, true, true, true, true, true, true, true, true, true, true, true, false] #[true, true, true, true, true, true, true, true, true, true, false, true, true] rfl rfl rfl rfl (by kernel_rfl) (by decide) (by decide) (fun K hK => ?_) (fun K hK => ?_)
  ·refine skip_ (w1 := ?_) (by rfl) rfl ?_ ?_
   rotate_left
   ·go_simp
    rfl
   refine hK.out _ _ ?_
   clear hK K
   refine last_ (i := 12) (N := none) #[true, true, true, true, true, true, true, true, true, true, true, true, true] rfl rfl (by kernel_rfl) (by decide) (fun K hK => ?_)
   refine skip_ (w1 := ?_) (by rfl) rfl ?_ ?_
   rotate_left
   ·go_simp
    rfl
   refine hK.out _ _ ?_
   clear hK K
   refine done_ (by kernel_rfl) ?_
   try go_wp2
   go_end0
   exact SevEnds.ok HX.out (LI_final HON.out HV6.out HP6.out HD6.out (by omega) FIN.out)
  ·refine skip_ (w1 := ?_) (by rfl) rfl ?_ ?_
   rotate_left
   ·go_simp
    rfl
   refine hK.out _ _ ?_
   clear hK K
   refine last_ (i := 10) (N := none) #[true, true, true, true, true, true, true, true, true, true, true, true, true] rfl rfl (by kernel_rfl) (by decide) (fun K hK => ?_)
   refine skip_ (w1 := ?_) (by rfl) rfl ?_ ?_
   rotate_left
   ·go_simp
    rfl
   refine hK.out _ _ ?_
   clear hK K
   refine done_ (by kernel_rfl) ?_
   try go_wp2
   go_end0
   have hcm := set4W_comm w6 V g1 l.length (.slice (some ⟨g1, 0, none⟩) (l.length + 1) c1) (.int .i64 j.f0) (.string j.f1) (.slice A2 j.f2.length c2) (.slice A3 j.f3.length c3) hV1
   have hfin := LI_final HON.out HV6.out HP6.out HD6.out (by omega) FIN.out
   rw [← hcm] at hfin
   exact SevEnds.ok HX.out hfin
theorem list1_calls (R : Nat) (s : ByteArray) (k r V PR PD : Nat) (d p0 : Int) (W0 : World) (hl : s.size ≤ 10000000000) (hR0 : RdB R s p0 W0) (hT : Tabs W0) (hV : W0.heap.size ≤ V) (hPR : PR ≠ R) (hPD : PD ≠ R) (hVal : ValOK R s k r (wrap64 (d + 1)))
  (l : List J) (q : Nat) (o : Out (List J)) (W : World) (hq : q ≤ s.size) (hF : oneI (valueF s.data.toList k r) l q = some o) (h : Inv R s W0 (LI R W0.heap.size V PR PD d) l q W) :
  Calls Tryd.prog 68 #[.pointer (some ⟨V, 0, none⟩), .pointer (some ⟨PR, 0, none⟩), .pointer (some ⟨PD, 0, none⟩)] W (SevEnds R s W0 (LI R W0.heap.size V PR PD d) o) := by
 obtain ⟨o1, h1, _⟩ := omap_some _ _ _ hF
 cases o1 with
 | err e q1 => exact list1_err R s k r V PR PD d p0 W0 hl hR0 hT hV hPR hPD hVal l q o W hq hF h e q1 h1
 | val j q1 => exact list1_val R s k r V PR PD d p0 W0 hl hR0 hT hV hPR hPD hVal l q o W hq hF h j q1 h1 (valueF_val _ _ _ _ _ _ (by rw [size_data]; exact hq) h1).1
abbrev zJ : Obj := Obj.cells #[.int .i64 0, .string ⟨#[]⟩, .slice none 0 0, .slice none 0 0] 25
abbrev lW0 (R : Nat) (d : Int) (W : World) : World := ((W.alloc (Obj.cells #[ptr R] 47)).alloc (Obj.cells #[.int .i64 d] 3)).alloc zJ
theorem lW0_size (R : Nat) (d : Int) (W : World) : (lW0 R d W).heap.size = W.heap.size + 1 + 1 + 1 := by simp [lW0]
theorem lW0_below (R : Nat) (d : Int) (W : World) : Below W.heap.size W (lW0 R d W) := below_alloc (below_alloc (below_alloc (Below.refl _ _) _) _) _
theorem Below.alloc_at {W : World} {b : Nat} {o o' : Obj} (h : W.heap[b]? = some o) : (W.alloc o').heap[b]? = some o :=
 ((below_alloc (Below.refl W.heap.size W) o').block b (lt_of_block h)).trans h
theorem lW0_boxes (R : Nat) (d : Int) (W : World) : (lW0 R d W).heap[W.heap.size]? = some (.cells #[ptr R] 47 (0, 0)) ∧ (lW0 R d W).heap[W.heap.size + 1]? = some (.cells #[.int .i64 d] 3 (0, 0)) ∧ (lW0 R d W).heap[W.heap.size + 1 + 1]? = some (.cells #[.int .i64 0, .string ⟨#[]⟩, .slice none 0 0, .slice none 0 0] 25 (0, 0)) := by
 have h1 := heap_alloc_new W (Obj.cells #[ptr R] 47)
 have h2 := heap_alloc_new (W.alloc (Obj.cells #[ptr R] 47)) (Obj.cells #[.int .i64 d] 3)
 have h3 := heap_alloc_new ((W.alloc (Obj.cells #[ptr R] 47)).alloc (Obj.cells #[.int .i64 d] 3)) zJ
 have e2 : (W.alloc (Obj.cells #[ptr R] 47)).heap.size = W.heap.size + 1 := by simp
 have e3 : ((W.alloc (Obj.cells #[ptr R] 47)).alloc (Obj.cells #[.int .i64 d] 3)).heap.size = W.heap.size + 1 + 1 := by simp
 rw [e2] at h2
 rw [e3] at h3
 exact ⟨Below.alloc_at (Below.alloc_at h1), Below.alloc_at h2, h3⟩
theorem LI_hI {R V PR PD : Nat} {d : Int} {W0 : World} (hR : R < W0.heap.size) (hV : W0.heap.size ≤ V) (hPR : PR ≠ R) (hPD : PD ≠ R) : ∀ a q q' W W', q ≤ q' → LI R W0.heap.size V PR PD d a q W → On R W W' → LI R W0.heap.size V PR PD d a q' W' :=
 fun _ _ _ _ _ hq h hO => LI.on hq h hR hV hPR hPD hO
def listEnd (R : Nat) (s : ByteArray) (W : World) (o : Out (List J)) (x : Ending) (W' : World) : Prop :=
 On R W W' ∧ match o with
  | .val a q => x = .returned (.tuple #[]) ∧ RdB R s q W' ∧ ∃ sv, W'.heap[W.heap.size + 1 + 1 + 1]? = some (.cells #[.int .i64 5, .string ⟨#[]⟩, .slice none 0 0, sv] 25 (0, 0)) ∧ k25.R 25 W' W.heap.size (fun k => k ≠ W.heap.size + 1 + 1 + 1 ∧ k ≠ W.heap.size + 1 + 1) sv a ∧
    W'.heap[W.heap.size + 1 + 1]? = some (.cells #[.int .i64 0, .string ⟨#[]⟩, .slice none 0 0, .slice none 0 0] 25 (0, 0))
  | .err e q => x = pan e q
theorem list_sev (R : Nat) (s : ByteArray) (k r : Nat) (d : Int) (p : Nat) (W : World) (hl : s.size ≤ 10000000000) (h : RdB R s p W) (hT : Tabs W) (hp : p < s.size) (hVal : ValOK R s k r (wrap64 (d + 1)))
  (o : Out (List J)) (hF : sevF (oneI (valueF s.data.toList k r)) s.data.toList 93 k [] p = some o) :
  Calls Tryd.prog 67 #[ptr R, .int .u8 93, .func (.func 68) #[] #[.pointer (some ⟨W.heap.size + 1 + 1 + 1, 0, none⟩), .pointer (some ⟨W.heap.size, 0, none⟩), .pointer (some ⟨W.heap.size + 1, 0, none⟩)]]
   ((lW0 R d W).alloc (Obj.cells #[.int .i64 5, .string ⟨#[]⟩, .slice none 0 0, .slice none 0 0] 25))
   (listEnd R s W o) := by
 have hR := h.lt
 have hb0 := lW0_below R d W
 have hs0 := lW0_size R d W
 obtain ⟨b1, b2, b3⟩ := lW0_boxes R d W
 have hO0 : On R W (lW0 R d W) := On.of_below (Nat.le_of_lt hR) hb0
 have hR0 : RdB R s p (lW0 R d W) := h.below hb0
 have hT0 : Tabs (lW0 R d W) := hT.on h hO0
 generalize hW0 : lW0 R d W = W0 at *
 have hb1 : Below W0.heap.size W0 (W0.alloc (Obj.cells #[.int .i64 5, .string ⟨#[]⟩, .slice none 0 0, .slice none 0 0] 25)) := below_alloc (Below.refl _ _) _
 have hO1 : On R W0 (W0.alloc (Obj.cells #[.int .i64 5, .string ⟨#[]⟩, .slice none 0 0, .slice none 0 0] 25)) := On.of_below (by omega) hb1
 have hV := heap_alloc_new W0 (Obj.cells #[.int .i64 5, .string ⟨#[]⟩, .slice none 0 0, .slice none 0 0] 25)
 rw [hs0] at hV
 have hVB : W0.heap.size ≤ W.heap.size + 1 + 1 + 1 := by omega
 have key := sevList_calls R s 93 (oneI (valueF s.data.toList k r)) (LI R W0.heap.size (W.heap.size + 1 + 1 + 1) W.heap.size (W.heap.size + 1) d) W0 (.pointer (some ⟨W.heap.size + 1 + 1 + 1, 0, none⟩)) (.pointer (some ⟨W.heap.size, 0, none⟩)) (.pointer (some ⟨W.heap.size + 1, 0, none⟩)) hl
  (LI_hI (by omega) hVB (by omega) (by omega))
  (fun a q a' q' hq h1 => by
   have := oneI_val s.data.toList _ (fun q j q' hq hv => valueF_val _ _ _ _ _ _ hq hv) a q a' q' (by rw [size_data]; exact hq) h1
   rw [size_data] at this
   exact this.2)
  (fun a q o W hq h1 h2 => list1_calls R s k r _ _ _ d p W0 hl hR0 hT0 hVB (by omega) (by omega) hVal a q o W hq h1 h2)
  k [] p o hp _ ⟨hR0.below hb1, hO1, Nat.zero_le _, _, ⟨hV, Below.alloc_at b1, Below.alloc_at b2, Kd.R_nil _ _ _ _ _⟩⟩ hF
 refine key.mono fun x W' hh => ?_
 cases o with
 | val a q =>
  obtain ⟨hx, h1, h2, _, sv, h3⟩ := hh
  refine ⟨hO0.trans h2, hx, h1, sv, h3.v, Kd.R_lower (Kd.R_mono (Kd.R_bound h3.items) (fun k hk => ⟨hk.1, by have := hk.2.1; omega⟩)) (by omega), blk_on b3 (by omega) h2⟩
 | err e q => exact ⟨hO0.trans hh.2, hh.1⟩
theorem blk4 {w : World} {g : Nat} {z0 z1 z2 z3 : Value} (h : w.heap[g]? = some (.cells #[z0, z1, z2, z3] 25 (0, 0))) (c0 c1 c2 c3 : Value) :
  ((((w.setCell ⟨g, 0, none⟩ c0).setCell ⟨g, 1, none⟩ c1).setCell ⟨g, 2, none⟩ c2).setCell ⟨g, 3, none⟩ c3).heap[g]? = some (.cells #[c0, c1, c2, c3] 25 (0, 0)) :=
 blk_put (cs := #[c0, c1, c2, z3]) (blk_put (cs := #[c0, c1, z2, z3]) (blk_put (cs := #[c0, z1, z2, z3]) (blk_put (cs := #[z0, z1, z2, z3]) h 0 c0 rfl) 1 c1 rfl) 2 c2 rfl) 3 c3 rfl
theorem set4_ends {R b : Nat} {s : ByteArray} {q : Int} {W w1 : World} (hR : RdB R s q w1) (hO : On R W w1) (hRW : R < W.heap.size) (hb : W.heap.size ≤ b) (c0 c1 c2 c3 : Value) :
  RdB R s q ((((w1.setCell ⟨b, 0, none⟩ c0).setCell ⟨b, 1, none⟩ c1).setCell ⟨b, 2, none⟩ c2).setCell ⟨b, 3, none⟩ c3) ∧ On R W ((((w1.setCell ⟨b, 0, none⟩ c0).setCell ⟨b, 1, none⟩ c1).setCell ⟨b, 2, none⟩ c2).setCell ⟨b, 3, none⟩ c3) := by
 have hne : R ≠ b := by omega
 have hle := Nat.le_of_lt hRW
 exact ⟨((Below.heap_setCell _ _ _ _ hne).trans ((Below.heap_setCell _ _ _ _ hne).trans ((Below.heap_setCell _ _ _ _ hne).trans (Below.heap_setCell _ _ _ _ hne)))).trans hR, (((hO.new b 0 _ hb hle).new b 1 _ hb hle).new b 2 _ hb hle).new b 3 _ hb hle⟩
set_option maxRecDepth 1000000 in
set_option maxHeartbeats 4000000 in
theorem list_calls (R : Nat) (s : ByteArray) (k r : Nat) (d : Int) (p : Nat) (W : World) (hl : s.size ≤ 10000000000) (h : RdB R s p W) (hT : Tabs W) (hp : p < s.size) (hVal : ValOK R s k r (wrap64 (d + 1)))
  (o : Out (List J)) (hF : sevF (oneI (valueF s.data.toList k r)) s.data.toList 93 k [] p = some o) :
  Calls Tryd.prog 43 #[ptr R, .int .i64 d] W (Ends R s W (o.map fun a => (⟨5, bsJ [], [], a⟩ : J)) (jV W.heap.size)) := by
 have key := am (list_sev R s k r d p W hl h hT hp hVal o hF)
 have hRW := h.lt
 clear hT hF hVal h
 cases o with
 | err e q =>
  go_enter Tryd.func43, Tryd.ntmps43
  go_wp2_with (go_at_call 67; (with_reducible refine (key.out).mono ?_); rintro e w1 ⟨ho, rfl⟩; have HO := am ho; clear ho)
  exact ⟨rfl, Ends.no rfl HO.out⟩
 | val a q =>
  go_enter Tryd.func43, Tryd.ntmps43
  go_wp2_with (go_at_call 67; (with_reducible refine (key.out).mono ?_); rintro e w1 ⟨ho, rfl, hr, sv, hv, hi, hb⟩; have HO := am ho; have HR := am hr; have HI := am hi; have HB := am hb; have HV := am hv; obtain ⟨A, c, e3⟩ := Kd.R_slice hi; subst e3; have v0 : w1.cell? ⟨W.heap.size + 1 + 1 + 1, 0, none⟩ = some (.int .i64 5) := (blk_cell hv 0).trans rfl; have v1 : w1.cell? ⟨W.heap.size + 1 + 1 + 1, 1, none⟩ = some (.string ⟨#[]⟩) := (blk_cell hv 1).trans rfl; have v2 : w1.cell? ⟨W.heap.size + 1 + 1 + 1, 2, none⟩ = some (.slice none 0 0) := (blk_cell hv 2).trans rfl; have v3 : w1.cell? ⟨W.heap.size + 1 + 1 + 1, 3, none⟩ = some (.slice A a.length c) := (blk_cell hv 3).trans rfl; have r0 : w1.cell? ⟨W.heap.size + 1 + 1, 0, none⟩ = some (.int .i64 0) := (blk_cell hb 0).trans rfl; have r1 : w1.cell? ⟨W.heap.size + 1 + 1, 1, none⟩ = some (.string ⟨#[]⟩) := (blk_cell hb 1).trans rfl; have r2 : w1.cell? ⟨W.heap.size + 1 + 1, 2, none⟩ = some (.slice none 0 0) := (blk_cell hb 2).trans rfl; have r3 : w1.cell? ⟨W.heap.size + 1 + 1, 3, none⟩ = some (.slice none 0 0) := (blk_cell hb 3).trans rfl; have f0 := blk_free hb 0; have f1 := blk_free hb 1; have f2 := blk_free hb 2; have f3 := blk_free hb 3; clear ho hr hv hi hb)
  refine bodyPost_ret (results_cell_row rfl _ _ (W.heap.size + 1 + 1) 25 #[.int .i64 5, .string ⟨#[]⟩, .slice none 0 0, .slice A a.length c] (0, 0) _ rfl (blk4 HB.out _ _ _ _) Tryd.underlying25 rfl (by kernel_rfl)) rfl ?_
  have hR1 := set4_ends (b := W.heap.size + 1 + 1) HR.out HO.out hRW (by omega) (.int .i64 5) (.string ⟨#[]⟩) (.slice none 0 0) (.slice A a.length c)
  refine Ends.ok rfl ⟨.slice none 0 0, .slice A a.length c, rfl, Kd.R_nil _ _ _ _ _, ?_⟩ hR1.1 hR1.2
  exact Kd.R_mono (Kd.R_far (p := ⟨W.heap.size + 1 + 1, 3, none⟩) (Kd.R_far (p := ⟨W.heap.size + 1 + 1, 2, none⟩) (Kd.R_far (p := ⟨W.heap.size + 1 + 1, 1, none⟩) (Kd.R_far (p := ⟨W.heap.size + 1 + 1, 0, none⟩) HI.out (fun _ hk => hk.2) _) (fun _ hk => hk.2) _) (fun _ hk => hk.2) _) (fun _ hk => hk.2) _) (fun k _ hh => by cases hh)
end Go.Proofs.YtaalajhmfdcalaaDoor.X
namespace Go.Proofs.YtaalajhmfdcalaaDoor.X
open Go.RowKit Go.Lib Go.Maps Go.Proofs.YtaalajhmfdcalaaDoorW.PrintWords Go.Proofs.YtaalajhmfdcalaaDoorW.PrintLast Go.Proofs.YtaalajhmfdcalaaDoorW.PrintMore
theorem key9 : Keyed Tryd.prog 9 := string_keyed Tryd.underlying9
theorem zero3 (w : World) : (zeroValue 3).run Tryd.prog w = .ok (.int .i64 0) w := by kernel_rfl
def Seen (W : World) (M : Nat) (names : List ByteArray) : Prop :=
 ∃ D : DataW Unit, IsMap D ∧ W.ownsMap Tryd.prog 9 (plainElem Tryd.prog 3) M names.length D ∧ ∀ b : List UInt8, D.atKey (.string b) (.lit (.int .i64 0)) = .lit (.int .i64 (if b ∈ names.map (fun n => n.data.toList) then 1 else 0))
theorem ownsMap_move {w w' : World} {b n : Nat} {D : DataW Unit} (h : w.ownsMap Tryd.prog 9 (plainElem Tryd.prog 3) b n D) (hm : w'.heap[b]? = w.heap[b]?) : w'.ownsMap Tryd.prog 9 (plainElem Tryd.prog 3) b n D := by
 obtain ⟨es, clock, hb, F, hs, hD⟩ := h
 exact ⟨es, clock, hm.trans hb, F, hs, hD⟩
theorem Seen.move {W W' : World} {M : Nat} {names : List ByteArray} (h : Seen W M names) (hm : W'.heap[M]? = W.heap[M]?) : Seen W' M names := by
 obtain ⟨D, h1, h2, h3⟩ := h
 exact ⟨D, h1, ownsMap_move h2 hm, h3⟩
theorem Seen.blk {W : World} {M : Nat} {names : List ByteArray} (h : Seen W M names) : ∃ es c, W.heap[M]? = some (.map es c) := by
 obtain ⟨D, h1, ⟨es, clock, hb, _⟩, h3⟩ := h
 exact ⟨es, clock, hb⟩
theorem Seen.lt {W : World} {M : Nat} {names : List ByteArray} (h : Seen W M names) : M < W.heap.size := by
 obtain ⟨es, c, hb⟩ := h.blk
 exact lt_of_block hb
theorem Seen.ne {W : World} {M g : Nat} {names : List ByteArray} {cells : Array Value} {t : TypeId} {f : Nat × Nat} (h : Seen W M names) (hg : W.heap[g]? = some (.cells cells t f)) : g ≠ M := by
 obtain ⟨es, c, hb⟩ := h.blk
 rintro rfl
 rw [hb] at hg
 cases hg
theorem Seen.made (W : World) : Seen (W.alloc (.map #[] 0)) W.heap.size [] :=
 ⟨.map [], ⟨[], rfl⟩, World.ownsMap_made _ _ _ _, fun b => by simp [DataW.atKey]⟩
structure OSt (R B V PR PD PM M : Nat) (d : Int) (ns : List ByteArray) (a : List ByteArray × List J) (sn sv : Value) (W : World) : Prop where
 v : W.heap[V]? = some (.cells #[.int .i64 6, .string ⟨#[]⟩, sn, sv] 25 (0, 0))
 r : W.heap[PR]? = some (.cells #[ptr R] 47 (0, 0))
 dd : W.heap[PD]? = some (.cells #[.int .i64 d] 3 (0, 0))
 pm : W.heap[PM]? = some (.cells #[.map (some M)] 97 (0, 0))
 seen : Seen W M ns
 names : Kd.string.R 9 W B (fun k => k ≠ V) sn a.1
 items : k25.R 25 W B (fun k => k ≠ V ∧ some k ≠ sn.ownBlock) sv a.2
structure OGeo (R B V PR PD PM M : Nat) : Prop where
 rb : R < B
 v : B ≤ V
 r : PR ≠ R
 dd : PD ≠ R
 pm : PM ≠ R
 m : B ≤ M
def OI (R B V PR PD PM M : Nat) (d : Int) (a : List ByteArray × List J) (q : Nat) (W : World) : Prop := a.2.length ≤ q ∧ a.1.length ≤ q ∧ ∃ sn sv, OSt R B V PR PD PM M d a.1 a sn sv W
theorem OSt.on {R B V PR PD PM M : Nat} {d : Int} {ns : List ByteArray} {a : List ByteArray × List J} {sn sv : Value} {W W' : World} (h : OSt R B V PR PD PM M d ns a sn sv W) (g : OGeo R B V PR PD PM M) (hO : On R W W') : OSt R B V PR PD PM M d ns a sn sv W' :=
 ⟨blk_on h.v (by have := g.v; have := g.rb; omega) hO, blk_on h.r g.r hO, blk_on h.dd g.dd hO, blk_on h.pm g.pm hO, h.seen.move (hO.kept M (by have := g.m; have := g.rb; omega) h.seen.lt), R_on h.names g.rb hO, R_on h.items g.rb hO⟩
theorem OI.on {R B V PR PD PM M : Nat} {d : Int} {a : List ByteArray × List J} {q q' : Nat} {W W' : World} (hq : q ≤ q') (h : OI R B V PR PD PM M d a q W) (g : OGeo R B V PR PD PM M) (hO : On R W W') : OI R B V PR PD PM M d a q' W' := by
 obtain ⟨h0, h1, sn, sv, h2⟩ := h
 exact ⟨by omega, by omega, sn, sv, h2.on g hO⟩
theorem R_map {α : Type} {dd : Kd α} {e B M : Nat} {W W' : World} {ok : Nat → Prop} {v : Value} {l : List α} {names : List ByteArray} (h : dd.R e W B ok v l) (hs : Seen W M names) (hg : W.grownBy W' (some M)) : dd.R e W' B ok v l :=
 Kd.R_mono (Kd.R_move (Kd.R_bound h) (fun k hk => by
  obtain ⟨_, _, hlt, q, _, cells, hc⟩ := hk
  exact hg.block k hlt (fun hh => by injection hh with hh; exact hs.ne hc hh))) (fun _ hk => hk.1)
theorem blk_grownM {W W' : World} {M g : Nat} {names : List ByteArray} {cells : Array Value} {t : TypeId} {f : Nat × Nat} (h : W.heap[g]? = some (.cells cells t f)) (hs : Seen W M names) (hg : W.grownBy W' (some M)) : W'.heap[g]? = some (.cells cells t f) :=
 (hg.block g (lt_of_block h) (fun hh => by injection hh with hh; exact hs.ne h hh)).trans h
theorem string_isKey (b : List UInt8) : WideAt.IsKeyLit (.string b) := by
 first | exact trivial | (unfold WideAt.IsKeyLit; simp) | (simp [WideAt.IsKeyLit])
theorem seen_put {W W' : World} {M : Nat} {names : List ByteArray} {D : DataW Unit} (nm : ByteArray) (h1 : IsMap D) (h3 : ∀ b : List UInt8, D.atKey (.string b) (.lit (.int .i64 0)) = .lit (.int .i64 (if b ∈ names.map (fun n => n.data.toList) then 1 else 0)))
  (h2 : W'.ownsMap Tryd.prog 9 (plainElem Tryd.prog 3) M (names.length + 1) (D.put (.string nm.data.toList) (.lit (.int .i64 1)))) : Seen W' M (names ++ [nm]) := by
 refine ⟨_, ?_, by rw [List.length_append, List.length_singleton]; exact h2, fun b => ?_⟩
 ·obtain ⟨es, rfl⟩ := h1; exact ⟨_, rfl⟩
 ·by_cases hb : b = nm.data.toList
  ·rw [hb, atKey_put_same h1 (string_isKey _), if_pos (by simp)]
  ·rw [atKey_put_other (fun hh => hb (by injection hh)), h3]
   congr 3
   simp [hb]
theorem oneM_item (v : Nat → Option (Out J)) (s : List UInt8) (k : Nat) (a : List ByteArray × List J) (q : Nat) (o : Out (List ByteArray × List J)) (h : oneM v s k a q = some o) :
  (s[q]? = none ∧ o = .err 3 s.length) ∨ (∃ c, s[q]? = some c ∧ c ≠ 34 ∧ o = .err 40 q) ∨
  (s[q]? = some 34 ∧ ((∃ e p, textF s k [] (q + 1) = some (.err e p) ∧ o = .err e p) ∨ (∃ nm q1, textF s k [] (q + 1) = some (.val nm q1) ∧
   ((nm ∈ a.1.map (fun b => b.data.toList) ∧ o = .err 45 q) ∨ (nm ∉ a.1.map (fun b => b.data.toList) ∧
    ((s[blanksF s q1]? = none ∧ o = .err 3 s.length) ∨ (∃ c, s[blanksF s q1]? = some c ∧ c ≠ 58 ∧ o = .err 40 (blanksF s q1)) ∨
     (s[blanksF s q1]? = some 58 ∧ ((∃ e p, v (blanksF s (blanksF s q1 + 1)) = some (.err e p) ∧ o = .err e p) ∨ (∃ x q2, v (blanksF s (blanksF s q1 + 1)) = some (.val x q2) ∧ o = .val (a.1 ++ [bsJ nm], a.2 ++ [x]) q2))))))))) := by
 unfold oneM at h
 cases hc : s[q]? with
 | none => rw [hc] at h; injection h with h; exact .inl ⟨rfl, h.symm⟩
 | some c =>
  rw [hc] at h
  simp only at h
  by_cases h34 : c = 34
  ·refine .inr (.inr ⟨by rw [h34], ?_⟩)
   rw [if_pos h34] at h
   cases ht : textF s k [] (q + 1) with
   | none => rw [ht] at h; cases h
   | some ot =>
    rw [ht] at h
    cases ot with
    | err e p => injection h with h; exact .inl ⟨e, p, rfl, h.symm⟩
    | val nm q1 =>
     simp only at h
     refine .inr ⟨nm, q1, rfl, ?_⟩
     by_cases hm : nm ∈ a.1.map (fun b => b.data.toList)
     ·rw [if_pos hm] at h; injection h with h; exact .inl ⟨hm, h.symm⟩
     ·rw [if_neg hm] at h
      refine .inr ⟨hm, ?_⟩
      cases hc2 : s[blanksF s q1]? with
      | none => rw [hc2] at h; injection h with h; exact .inl ⟨rfl, h.symm⟩
      | some c2 =>
       rw [hc2] at h
       simp only at h
       by_cases h58 : c2 = 58
       ·rw [if_pos h58] at h
        refine .inr (.inr ⟨by rw [h58], ?_⟩)
        cases hv : v (blanksF s (blanksF s q1 + 1)) with
        | none => rw [hv] at h; cases h
        | some ov =>
         rw [hv] at h
         injection h with h
         cases ov with
         | err e p => exact .inl ⟨e, p, rfl, h.symm⟩
         | val x q2 => exact .inr ⟨x, q2, rfl, h.symm⟩
       ·rw [if_neg h58] at h; injection h with h; exact .inr (.inl ⟨c2, rfl, h58, h.symm⟩)
  ·rw [if_neg h34] at h; injection h with h; exact .inr (.inl ⟨c, rfl, h34, h.symm⟩)
theorem OI_final {R V PR PD PM M g1 c1 : Nat} {d : Int} {a : List ByteArray × List J} {j : J} {s : ByteArray} {q1 : Nat} {W0 w6 fin : World} {ys : List Value} {sn a3 : Value}
  (hown : w6.ownsRow W0.heap.size 25 4 (.slice (some ⟨g1, 0, none⟩) (a.2.length + 1) c1) (a.2.length + 1) ys)
  (hV6 : w6.heap[V]? = some (.cells #[.int .i64 6, .string ⟨#[]⟩, sn, a3] 25 (0, 0))) (hP6 : w6.heap[PR]? = some (.cells #[ptr R] 47 (0, 0))) (hD6 : w6.heap[PD]? = some (.cells #[.int .i64 d] 3 (0, 0))) (hM6 : w6.heap[PM]? = some (.cells #[.map (some M)] 97 (0, 0)))
  (hS6 : Seen w6 M a.1) (hN6 : Kd.string.R 9 w6 W0.heap.size (fun k => k ≠ V) sn a.1) (hlen : a.2.length + 1 ≤ q1) (hlen1 : a.1.length ≤ q1)
  (h : fin.heap[V]? = some (.cells #[.int .i64 6, .string ⟨#[]⟩, sn, .slice (some ⟨g1, 0, none⟩) (a.2.length + 1) c1] 25 (0, 0)) ∧ k25.R 25 fin W0.heap.size (fun k => k ≠ V ∧ some k ≠ sn.ownBlock) (.slice (some ⟨g1, 0, none⟩) (a.2.length + 1) c1) (a.2 ++ [j]) ∧ On R W0 fin ∧ RdB R s q1 fin ∧ (∀ b, b ≠ V → b ≠ g1 → fin.heap[b]? = w6.heap[b]?)) :
  Inv R s W0 (OI R W0.heap.size V PR PD PM M d) (a.1, a.2 ++ [j]) q1 fin := by
 obtain ⟨h1, h2, h3, h4, h5⟩ := h
 obtain ⟨cg, hg⟩ := own_typed hown g1 rfl
 have n1 : PR ≠ V := by rintro rfl; rw [hV6] at hP6; cases hP6
 have n2 : PD ≠ V := by rintro rfl; rw [hV6] at hD6; cases hD6
 have n3 : PR ≠ g1 := by rintro rfl; rw [hg] at hP6; cases hP6
 have n4 : PD ≠ g1 := by rintro rfl; rw [hg] at hD6; cases hD6
 have n5 : PM ≠ V := by rintro rfl; rw [hV6] at hM6; cases hM6
 have n6 : PM ≠ g1 := by rintro rfl; rw [hg] at hM6; cases hM6
 refine ⟨h4, h3, by rw [List.length_append, List.length_singleton]; exact hlen, hlen1, _, _, ⟨h1, (h5 PR n1 n3).trans hP6, (h5 PD n2 n4).trans hD6, (h5 PM n5 n6).trans hM6, hS6.move (h5 M (Ne.symm (hS6.ne hV6)) (Ne.symm (hS6.ne hg))), ?_, h2⟩⟩
 refine Kd.R_mono (Kd.R_move (Kd.R_bound hN6) (fun k hk => h5 k hk.1 ?_)) (fun _ hk => hk.1)
 rintro rfl
 obtain ⟨_, _, _, q, hq, cells, hc⟩ := hk
 rw [hg] at hc
 injection hc with hc
 injection hc with _ hc
 subst hc
 revert hq
 decide
theorem OSt.mapped {R B V PR PD PM M : Nat} {d : Int} {a : List ByteArray × List J} {sn sv : Value} {W W' : World} {D : DataW Unit} {nm : List UInt8} (h : OSt R B V PR PD PM M d a.1 a sn sv W) (h1 : IsMap D) (h3 : ∀ b : List UInt8, D.atKey (.string b) (.lit (.int .i64 0)) = .lit (.int .i64 (if b ∈ a.1.map (fun n => n.data.toList) then 1 else 0)))
  (hown : W'.ownsMap Tryd.prog 9 (plainElem Tryd.prog 3) M (a.1.length + 1) (D.put (.string nm) (.lit (.int .i64 1)))) (hg : W.grownBy W' (some M)) : OSt R B V PR PD PM M d (a.1 ++ [bs nm]) a sn sv W' :=
 ⟨blk_grownM h.v h.seen hg, blk_grownM h.r h.seen hg, blk_grownM h.dd h.seen hg, blk_grownM h.pm h.seen hg, seen_put (W := W) (bs nm) h1 h3 hown, R_map h.names h.seen hg, R_map h.items h.seen hg⟩
theorem key_bs (nm : List UInt8) (h : nm.length ≤ maxLen) : keyOf Tryd.prog 9 (.string (bs nm)) = some (.string nm) := Go.WideMaps.keyOf_string_mk Tryd.underlying9 (s := bs nm) (by rw [bs_size]; exact h)
theorem textF_len (s : List UInt8) : ∀ (k : Nat) (out : List UInt8) (p q : Nat) (t : List UInt8), textF s k out p = some (.val t q) → t.length ≤ out.length + 2 * (q - p)
 | 0, out, p, q, t, h => by simp [textF] at h
 | k + 1, out, p, q, t, h => by
  cases hc : s[p]? with
  | none => rw [textF_short _ _ _ _ hc] at h; injection h with h; cases h
  | some c =>
   have hlt := (List.getElem?_eq_some_iff.1 hc).1
   by_cases h34 : c = 34
   ·rw [textF_end _ _ _ _ _ hc h34] at h
    injection h with h
    injection h with h _
    rw [h]; omega
   ·by_cases h32 : c.toNat < 32
    ·rw [textF_low _ _ _ _ _ hc h32] at h; injection h with h; cases h
    ·by_cases h92 : c = 92
     ·rw [textF_esc _ _ _ _ _ hc h92] at h
      cases hes : escF s p with
      | err e q1 => rw [hes] at h; injection h with h; cases h
      | val r q1 =>
       rw [hes] at h
       obtain ⟨h1, h2, _⟩ := escF_val _ _ _ _ hes
       have h3 := textF_len s k _ _ _ _ h
       have h4 := textF_val s k _ _ _ _ h
       have h5 := encodeRune_le r
       rw [List.length_append] at h3
       omega
     ·by_cases h128 : c.toNat < 128
      ·rw [textF_ascii _ _ _ _ _ hc h34 h32 h92 h128] at h
       have h3 := textF_len s k _ _ _ _ h
       have h4 := textF_val s k _ _ _ _ h
       rw [List.length_append, List.length_singleton] at h3
       omega
      ·rw [textF_rune _ _ _ _ _ hc h128] at h
       split at h
       ·split at h <;> (injection h with h; cases h)
       ·have h3 := textF_len s k _ _ _ _ h
        have h4 := textF_val s k _ _ _ _ h
        rw [List.length_append] at h3
        have h5 := List.length_take_le (decodeGo ⟨(s.drop p).toArray⟩).2 (s.drop p)
        omega
set_option maxRecDepth 1000000 in
set_option maxHeartbeats 4000000 in
theorem obj1_A (R : Nat) (s : ByteArray) (k r V PR PD PM M : Nat) (d p0 : Int) (W0 : World) (hl : s.size ≤ 10000000000) (hR0 : RdB R s p0 W0) (hT : Tabs W0) (hG : OGeo R W0.heap.size V PR PD PM M) (hVal : ValOK R s k r (wrap64 (d + 1)))
  (a : List ByteArray × List J) (q : Nat) (o : Out (List ByteArray × List J)) (W : World) (hq : q ≤ s.size) (h : Inv R s W0 (OI R W0.heap.size V PR PD PM M d) a q W) (h1 : s.data.toList[q]? = none) (h2 : o = .err 3 s.data.toList.length) :
  Calls Tryd.prog 69 #[.pointer (some ⟨PR, 0, none⟩), .pointer (some ⟨PM, 0, none⟩), .pointer (some ⟨V, 0, none⟩), .pointer (some ⟨PD, 0, none⟩)] W (SevEnds R s W0 (OI R W0.heap.size V PR PD PM M d) o) := by
 obtain ⟨hR, hO, hlq, hnq, sn, sv, hS⟩ := h
 have HT := am (fun (w : World) (ho : On R W0 w) => hT.on hR0 ho)
 have HR := am hR
 have HOW := am hO
 have HS := am hS
 have HG := am hG
 have HRB := am hR0.lt
 have HRW := am hR.lt
 have HVal := am hVal
 have r0 : W.cell? ⟨PR, 0, none⟩ = some (ptr R) := (blk_cell hS.r 0).trans rfl
 have c1 := hR.c1
 clear hR hO hS hR0 hT hVal hG
 have hps : s.size ≤ q := by rw [List.getElem?_eq_none_iff, size_data] at h1; exact h1
 have HX := am (h2.trans (by rw [size_data]))
 clear h1 h2
 go_enter Tryd.func69, Tryd.ntmps69
 go_wp2_with (go_at_call 39; (with_reducible refine (peek_short R s q hps _ ?rd1).mono ?_); (case rd1 => exact HR.out); rintro e w1 ⟨rfl, hb⟩; have HB := am hb; clear hb)
 exact ⟨rfl, SevEnds.no HX.out (HOW.out.drawn HB.out)⟩
set_option maxRecDepth 1000000 in
set_option maxHeartbeats 4000000 in
theorem obj1_B (R : Nat) (s : ByteArray) (k r V PR PD PM M : Nat) (d p0 : Int) (W0 : World) (hl : s.size ≤ 10000000000) (hR0 : RdB R s p0 W0) (hT : Tabs W0) (hG : OGeo R W0.heap.size V PR PD PM M) (hVal : ValOK R s k r (wrap64 (d + 1)))
  (a : List ByteArray × List J) (q : Nat) (o : Out (List ByteArray × List J)) (W : World) (hq : q ≤ s.size) (h : Inv R s W0 (OI R W0.heap.size V PR PD PM M d) a q W) (c : UInt8) (h1 : s.data.toList[q]? = some c) (h34 : c ≠ 34) (h2 : o = .err 40 q) :
  Calls Tryd.prog 69 #[.pointer (some ⟨PR, 0, none⟩), .pointer (some ⟨PM, 0, none⟩), .pointer (some ⟨V, 0, none⟩), .pointer (some ⟨PD, 0, none⟩)] W (SevEnds R s W0 (OI R W0.heap.size V PR PD PM M d) o) := by
 obtain ⟨hR, hO, hlq, hnq, sn, sv, hS⟩ := h
 have HT := am (fun (w : World) (ho : On R W0 w) => hT.on hR0 ho)
 have HR := am hR
 have HOW := am hO
 have HS := am hS
 have HG := am hG
 have HRB := am hR0.lt
 have HRW := am hR.lt
 have HVal := am hVal
 have r0 : W.cell? ⟨PR, 0, none⟩ = some (ptr R) := (blk_cell hS.r 0).trans rfl
 have c1 := hR.c1
 clear hR hO hS hR0 hT hVal hG
 have HC := am h1
 have HX := am h2
 have e34 : ((c.toNat : Int) != 34) = true := (bne_u8' c 34).trans (congrArg (!·) (decide_eq_false h34))
 clear h1 h2 h34
 go_enter Tryd.func69, Tryd.ntmps69
 go_wp2_with (go_at_call 39; (with_reducible refine (peek_ok R s q c HC.out _ ?rd1).mono ?_); (case rd1 => exact HR.out); rintro e w1 ⟨rfl, hb⟩; have HR1 := am (HR.out.drawn hb); have HO1 := am ((On.refl R W).drawn hb); have HS1 := am (HS.out.on HG.out HO1.out); have r1 : w1.cell? ⟨PR, 0, none⟩ = some (ptr R) := (blk_cell HS1.out.r 0).trans rfl; have d1 := HR1.out.c1; clear hb)
 go_region_with ((go_at_call 29; (with_reducible refine (fail_calls _ _ _ _).mono ?_); rintro e w9 ⟨rfl, hb⟩; refine any_dummy w9 ⟨rfl, SevEnds.no HX.out (HOW.out.trans ((HO1.out.drewN 1).drawn hb))⟩ ?_))
 all_goals trivial
set_option maxRecDepth 1000000 in
set_option maxHeartbeats 4000000 in
theorem obj1_C (R : Nat) (s : ByteArray) (k r V PR PD PM M : Nat) (d p0 : Int) (W0 : World) (hl : s.size ≤ 10000000000) (hR0 : RdB R s p0 W0) (hT : Tabs W0) (hG : OGeo R W0.heap.size V PR PD PM M) (hVal : ValOK R s k r (wrap64 (d + 1)))
  (a : List ByteArray × List J) (q : Nat) (o : Out (List ByteArray × List J)) (W : World) (hq : q ≤ s.size) (h : Inv R s W0 (OI R W0.heap.size V PR PD PM M d) a q W) (h1 : s.data.toList[q]? = some 34) (e q1 : Nat) (h2 : textF s.data.toList k [] (q + 1) = some (.err e q1)) (h3 : o = .err e q1) :
  Calls Tryd.prog 69 #[.pointer (some ⟨PR, 0, none⟩), .pointer (some ⟨PM, 0, none⟩), .pointer (some ⟨V, 0, none⟩), .pointer (some ⟨PD, 0, none⟩)] W (SevEnds R s W0 (OI R W0.heap.size V PR PD PM M d) o) := by
 obtain ⟨hR, hO, hlq, hnq, sn, sv, hS⟩ := h
 have HT := am (fun (w : World) (ho : On R W0 w) => hT.on hR0 ho)
 have HR := am hR
 have HOW := am hO
 have HS := am hS
 have HG := am hG
 have HRB := am hR0.lt
 have HRW := am hR.lt
 have HVal := am hVal
 have r0 : W.cell? ⟨PR, 0, none⟩ = some (ptr R) := (blk_cell hS.r 0).trans rfl
 have c1 := hR.c1
 clear hR hO hS hR0 hT hVal hG
 have HC := am h1
 have hlt := at_lt' h1
 have e34 : (((34 : UInt8).toNat : Int) != 34) = false := by decide
 clear h1
 have HE := am h2
 have HX := am h3
 clear h2 h3
 go_enter Tryd.func69, Tryd.ntmps69
 go_wp2_with (first | (go_at_call 39; (with_reducible refine (peek_ok R s q 34 HC.out _ ?rd1).mono ?_); (case rd1 => exact HR.out); rintro e w1 ⟨rfl, hb⟩; have HR1 := am (HR.out.drawn hb); have HO1 := am ((On.refl R W).drawn hb); have HS1 := am (HS.out.on HG.out HO1.out); have r1 : w1.cell? ⟨PR, 0, none⟩ = some (ptr R) := (blk_cell HS1.out.r 0).trans rfl; have d1 := HR1.out.c1; clear hb) | (go_at_call 42; (with_reducible refine (Calls.err_of (text_calls R s q k _ hl hlt _ ?rd2 ?tb2 HE.out) rfl).mono ?_); (case rd2 => exact HR1.out); (case tb2 => exact HT.out _ (HOW.out.trans HO1.out)); rintro e w2 ⟨rfl, ho⟩; have HO2 := am (HO1.out.trans ho); clear ho))
 exact ⟨rfl, SevEnds.no HX.out (HOW.out.trans HO2.out)⟩
set_option maxRecDepth 1000000 in
set_option maxHeartbeats 4000000 in
theorem obj1_D (R : Nat) (s : ByteArray) (k r V PR PD PM M : Nat) (d p0 : Int) (W0 : World) (hl : s.size ≤ 10000000000) (hR0 : RdB R s p0 W0) (hT : Tabs W0) (hG : OGeo R W0.heap.size V PR PD PM M) (hVal : ValOK R s k r (wrap64 (d + 1)))
  (a : List ByteArray × List J) (q : Nat) (o : Out (List ByteArray × List J)) (W : World) (hq : q ≤ s.size) (h : Inv R s W0 (OI R W0.heap.size V PR PD PM M d) a q W) (h1 : s.data.toList[q]? = some 34) (nm : List UInt8) (q1 : Nat) (h2 : textF s.data.toList k [] (q + 1) = some (.val nm q1)) (hm : nm ∈ a.1.map (fun b => b.data.toList)) (h3 : o = .err 45 q) :
  Calls Tryd.prog 69 #[.pointer (some ⟨PR, 0, none⟩), .pointer (some ⟨PM, 0, none⟩), .pointer (some ⟨V, 0, none⟩), .pointer (some ⟨PD, 0, none⟩)] W (SevEnds R s W0 (OI R W0.heap.size V PR PD PM M d) o) := by
 obtain ⟨hR, hO, hlq, hnq, sn, sv, hS⟩ := h
 have HT := am (fun (w : World) (ho : On R W0 w) => hT.on hR0 ho)
 have HR := am hR
 have HOW := am hO
 have HS := am hS
 have HG := am hG
 have HRB := am hR0.lt
 have HRW := am hR.lt
 have HVal := am hVal
 have r0 : W.cell? ⟨PR, 0, none⟩ = some (ptr R) := (blk_cell hS.r 0).trans rfl
 have c1 := hR.c1
 clear hR hO hS hR0 hT hVal hG
 have HC := am h1
 have hlt := at_lt' h1
 have e34 : (((34 : UInt8).toNat : Int) != 34) = false := by decide
 clear h1
 have HE := am h2
 have ht1 := textF_val _ _ _ _ _ _ h2
 have ht2 := textF_len _ _ _ _ _ _ h2
 rw [size_data] at ht1
 rw [List.length_nil] at ht2
 have HK := am (key_bs nm (by unfold maxLen; omega))
 have HX := am h3
 clear h2 h3
 go_enter Tryd.func69, Tryd.ntmps69
 go_wp2_with (first | (go_at_call 39; (with_reducible refine (peek_ok R s q 34 HC.out _ ?rd1).mono ?_); (case rd1 => exact HR.out); rintro e w1 ⟨rfl, hb⟩; have HR1 := am (HR.out.drawn hb); have HO1 := am ((On.refl R W).drawn hb); have HS1 := am (HS.out.on HG.out HO1.out); have r1 : w1.cell? ⟨PR, 0, none⟩ = some (ptr R) := (blk_cell HS1.out.r 0).trans rfl; have d1 := HR1.out.c1; clear hb) | (go_at_call 42; (with_reducible refine (Calls.val_of (text_calls R s q k _ hl hlt _ ?rd2 ?tb2 HE.out) rfl).mono ?_); (case rd2 => exact HR1.out); (case tb2 => exact HT.out _ (HOW.out.trans HO1.out)); rintro e w2 ⟨v, rfl, hv, hr, ho⟩; subst hv; have HO2 := am (HO1.out.trans ho); have HR2 := am hr; have HS2 := am (HS.out.on HG.out HO2.out); have r2 : w2.cell? ⟨PR, 0, none⟩ = some (ptr R) := (blk_cell HS2.out.r 0).trans rfl; have m2 : w2.cell? ⟨PM, 0, none⟩ = some (.map (some M)) := (blk_cell HS2.out.pm 0).trans rfl; clear hr ho) | (at_lookup; obtain ⟨D, hD1, hD2, hD3⟩ := HS2.out.seen; refine wpList_lookup_own_int _ rfl _ _ 97 rfl 9 3 .i64 key9 Tryd.underlying97 Tryd.underlying3 (zero3 _) M a.1.length D rfl hD2 (.string (bs nm)) (.string nm) rfl HK.out ?_; intro cc hat hwc; rw [hD3 nm, if_pos hm] at hat; injection hat with hat; injection hat with _ hat; subst hat; have HD1 := am hD1; have HD2 := am hD2; have HD3 := am hD3; clear hD1 hD2 hD3 hwc) | (go_at_call 29; (with_reducible refine (fail_calls _ _ _ _).mono ?_); rintro e w9 ⟨rfl, hb⟩; have HB9 := am hb; clear hb))
 exact ⟨rfl, SevEnds.no HX.out (HOW.out.trans (HO2.out.drawn HB9.out))⟩
set_option maxRecDepth 1000000 in
set_option maxHeartbeats 4000000 in
theorem obj1_E (R : Nat) (s : ByteArray) (k r V PR PD PM M : Nat) (d p0 : Int) (W0 : World) (hl : s.size ≤ 10000000000) (hR0 : RdB R s p0 W0) (hT : Tabs W0) (hG : OGeo R W0.heap.size V PR PD PM M) (hVal : ValOK R s k r (wrap64 (d + 1)))
  (a : List ByteArray × List J) (q : Nat) (o : Out (List ByteArray × List J)) (W : World) (hq : q ≤ s.size) (h : Inv R s W0 (OI R W0.heap.size V PR PD PM M d) a q W) (h1 : s.data.toList[q]? = some 34) (nm : List UInt8) (q1 : Nat) (h2 : textF s.data.toList k [] (q + 1) = some (.val nm q1)) (hm : nm ∉ a.1.map (fun b => b.data.toList)) (h4 : s.data.toList[blanksF s.data.toList q1]? = none) (h3 : o = .err 3 s.data.toList.length) :
  Calls Tryd.prog 69 #[.pointer (some ⟨PR, 0, none⟩), .pointer (some ⟨PM, 0, none⟩), .pointer (some ⟨V, 0, none⟩), .pointer (some ⟨PD, 0, none⟩)] W (SevEnds R s W0 (OI R W0.heap.size V PR PD PM M d) o) := by
 obtain ⟨hR, hO, hlq, hnq, sn, sv, hS⟩ := h
 have HT := am (fun (w : World) (ho : On R W0 w) => hT.on hR0 ho)
 have HR := am hR
 have HOW := am hO
 have HS := am hS
 have HG := am hG
 have HRB := am hR0.lt
 have HRW := am hR.lt
 have HVal := am hVal
 have r0 : W.cell? ⟨PR, 0, none⟩ = some (ptr R) := (blk_cell hS.r 0).trans rfl
 have c1 := hR.c1
 clear hR hO hS hR0 hT hVal hG
 have HC := am h1
 have hlt := at_lt' h1
 have e34 : (((34 : UInt8).toNat : Int) != 34) = false := by decide
 clear h1
 have HE := am h2
 have ht1 := textF_val _ _ _ _ _ _ h2
 have ht2 := textF_len _ _ _ _ _ _ h2
 rw [size_data] at ht1
 rw [List.length_nil] at ht2
 have HK := am (key_bs nm (by unfold maxLen; omega))
 have HX := am (h3.trans (by rw [size_data]))
 clear h2 h3
 have hb1 := blanks_ge s.data.toList q1
 have hb2 := blanks_le s.data.toList q1 (by rw [size_data]; exact ht1.2)
 rw [size_data] at hb2
 have hps : s.size ≤ blanksF s.data.toList q1 := by rw [List.getElem?_eq_none_iff, size_data] at h4; exact h4
 clear h4
 generalize hg1 : blanksF s.data.toList q1 = b1 at *
 have HG1 := am hg1
 clear hg1
 go_enter Tryd.func69, Tryd.ntmps69
 go_wp2_with (first | (go_at_call 39; (with_reducible refine (peek_ok R s q 34 HC.out _ ?rd1).mono ?_); (case rd1 => exact HR.out); rintro e w1 ⟨rfl, hb⟩; have HR1 := am (HR.out.drawn hb); have HO1 := am ((On.refl R W).drawn hb); have HS1 := am (HS.out.on HG.out HO1.out); have r1 : w1.cell? ⟨PR, 0, none⟩ = some (ptr R) := (blk_cell HS1.out.r 0).trans rfl; have d1 := HR1.out.c1; clear hb) | (go_at_call 42; (with_reducible refine (Calls.val_of (text_calls R s q k _ hl hlt _ ?rd2 ?tb2 HE.out) rfl).mono ?_); (case rd2 => exact HR1.out); (case tb2 => exact HT.out _ (HOW.out.trans HO1.out)); rintro e w2 ⟨v, rfl, hv, hr, ho⟩; subst hv; have HO2 := am (HO1.out.trans ho); have HR2 := am hr; have HS2 := am (HS.out.on HG.out HO2.out); have r2 : w2.cell? ⟨PR, 0, none⟩ = some (ptr R) := (blk_cell HS2.out.r 0).trans rfl; have m2 : w2.cell? ⟨PM, 0, none⟩ = some (.map (some M)) := (blk_cell HS2.out.pm 0).trans rfl; clear hr ho) | (at_lookup; obtain ⟨D, hD1, hD2, hD3⟩ := HS2.out.seen; refine wpList_lookup_own_int _ rfl _ _ 97 rfl 9 3 .i64 key9 Tryd.underlying97 Tryd.underlying3 (zero3 _) M a.1.length D rfl hD2 (.string (bs nm)) (.string nm) rfl HK.out ?_; intro cc hat hwc; rw [hD3 nm, if_neg hm] at hat; injection hat with hat; injection hat with _ hat; subst hat; have HD1 := am hD1; have HD2 := am hD2; have HD3 := am hD3; clear hD1 hD2 hD3 hwc) | (at_mapUpdate; refine wpList_mapUpdate_own _ rfl _ _ _ 97 rfl 9 3 key9 Tryd.underlying97 _ M a.1.length _ rfl HD2.out (by unfold maxLen; omega) _ _ _ rfl rfl HK.out _ [] (plainElem_int Tryd.underlying3 (by decide)) ?_; intro w3 hown3 hg3; have HS3 := am (HS2.out.mapped HD1.out HD3.out hown3 hg3); have HO3 := am ((HOW.out.trans HO2.out).grownRow hg3 (fun b hb => by injection hb with hb; have := HG.out.m; omega) (Nat.le_of_lt HRB.out)); have HR3 := am (show RdB R s q1 w3 from blk_grownM HR2.out HS2.out.seen hg3); have r3 : w3.cell? ⟨PR, 0, none⟩ = some (ptr R) := (blk_cell HS3.out.r 0).trans rfl; clear hown3 hg3) | (go_at_call 27; (with_reducible refine (blanks_calls R s q1 (by omega) (by omega) _ ?rd4).mono ?_); (case rd4 => exact HR3.out); rintro e w4 ⟨rfl, hr, ho⟩; rw [HG1.out] at hr; have HR4 := am hr; have HN4 := am ho; have HO4 := am (HO3.out.trans ho); have HS4 := am (HS3.out.on HG.out ho); have r4 : w4.cell? ⟨PR, 0, none⟩ = some (ptr R) := (blk_cell HS4.out.r 0).trans rfl; clear hr ho) | (go_at_call 39; (with_reducible refine (peek_short R s b1 hps _ ?rd5).mono ?_); (case rd5 => exact HR4.out); rintro e w5 ⟨rfl, hb⟩; have HB := am hb; clear hb))
 exact ⟨rfl, SevEnds.no HX.out (HO4.out.drawn HB.out)⟩
set_option maxRecDepth 1000000 in
set_option maxHeartbeats 4000000 in
theorem obj1_F (R : Nat) (s : ByteArray) (k r V PR PD PM M : Nat) (d p0 : Int) (W0 : World) (hl : s.size ≤ 10000000000) (hR0 : RdB R s p0 W0) (hT : Tabs W0) (hG : OGeo R W0.heap.size V PR PD PM M) (hVal : ValOK R s k r (wrap64 (d + 1)))
  (a : List ByteArray × List J) (q : Nat) (o : Out (List ByteArray × List J)) (W : World) (hq : q ≤ s.size) (h : Inv R s W0 (OI R W0.heap.size V PR PD PM M d) a q W) (h1 : s.data.toList[q]? = some 34) (nm : List UInt8) (q1 : Nat) (h2 : textF s.data.toList k [] (q + 1) = some (.val nm q1)) (hm : nm ∉ a.1.map (fun b => b.data.toList)) (c : UInt8) (h4 : s.data.toList[blanksF s.data.toList q1]? = some c) (h58 : c ≠ 58) (h3 : o = .err 40 (blanksF s.data.toList q1)) :
  Calls Tryd.prog 69 #[.pointer (some ⟨PR, 0, none⟩), .pointer (some ⟨PM, 0, none⟩), .pointer (some ⟨V, 0, none⟩), .pointer (some ⟨PD, 0, none⟩)] W (SevEnds R s W0 (OI R W0.heap.size V PR PD PM M d) o) := by
 obtain ⟨hR, hO, hlq, hnq, sn, sv, hS⟩ := h
 have HT := am (fun (w : World) (ho : On R W0 w) => hT.on hR0 ho)
 have HR := am hR
 have HOW := am hO
 have HS := am hS
 have HG := am hG
 have HRB := am hR0.lt
 have HRW := am hR.lt
 have HVal := am hVal
 have r0 : W.cell? ⟨PR, 0, none⟩ = some (ptr R) := (blk_cell hS.r 0).trans rfl
 have c1 := hR.c1
 clear hR hO hS hR0 hT hVal hG
 have HC := am h1
 have hlt := at_lt' h1
 have e34 : (((34 : UInt8).toNat : Int) != 34) = false := by decide
 clear h1
 have HE := am h2
 have ht1 := textF_val _ _ _ _ _ _ h2
 have ht2 := textF_len _ _ _ _ _ _ h2
 rw [size_data] at ht1
 rw [List.length_nil] at ht2
 have HK := am (key_bs nm (by unfold maxLen; omega))
 have HX := am h3
 clear h2 h3
 have hb1 := blanks_ge s.data.toList q1
 have hb2 := blanks_le s.data.toList q1 (by rw [size_data]; exact ht1.2)
 rw [size_data] at hb2
 have HC2 := am h4
 have e58 : ((c.toNat : Int) != 58) = true := (bne_u8' c 58).trans (congrArg (!·) (decide_eq_false h58))
 clear h4 h58
 generalize hg1 : blanksF s.data.toList q1 = b1 at *
 have HG1 := am hg1
 clear hg1
 go_enter Tryd.func69, Tryd.ntmps69
 go_wp2_with (first | (go_at_call 39; (with_reducible refine (peek_ok R s q 34 HC.out _ ?rd1).mono ?_); (case rd1 => exact HR.out); rintro e w1 ⟨rfl, hb⟩; have HR1 := am (HR.out.drawn hb); have HO1 := am ((On.refl R W).drawn hb); have HS1 := am (HS.out.on HG.out HO1.out); have r1 : w1.cell? ⟨PR, 0, none⟩ = some (ptr R) := (blk_cell HS1.out.r 0).trans rfl; have d1 := HR1.out.c1; clear hb) | (go_at_call 42; (with_reducible refine (Calls.val_of (text_calls R s q k _ hl hlt _ ?rd2 ?tb2 HE.out) rfl).mono ?_); (case rd2 => exact HR1.out); (case tb2 => exact HT.out _ (HOW.out.trans HO1.out)); rintro e w2 ⟨v, rfl, hv, hr, ho⟩; subst hv; have HO2 := am (HO1.out.trans ho); have HR2 := am hr; have HS2 := am (HS.out.on HG.out HO2.out); have r2 : w2.cell? ⟨PR, 0, none⟩ = some (ptr R) := (blk_cell HS2.out.r 0).trans rfl; have m2 : w2.cell? ⟨PM, 0, none⟩ = some (.map (some M)) := (blk_cell HS2.out.pm 0).trans rfl; clear hr ho) | (at_lookup; obtain ⟨D, hD1, hD2, hD3⟩ := HS2.out.seen; refine wpList_lookup_own_int _ rfl _ _ 97 rfl 9 3 .i64 key9 Tryd.underlying97 Tryd.underlying3 (zero3 _) M a.1.length D rfl hD2 (.string (bs nm)) (.string nm) rfl HK.out ?_; intro cc hat hwc; rw [hD3 nm, if_neg hm] at hat; injection hat with hat; injection hat with _ hat; subst hat; have HD1 := am hD1; have HD2 := am hD2; have HD3 := am hD3; clear hD1 hD2 hD3 hwc) | (at_mapUpdate; refine wpList_mapUpdate_own _ rfl _ _ _ 97 rfl 9 3 key9 Tryd.underlying97 _ M a.1.length _ rfl HD2.out (by unfold maxLen; omega) _ _ _ rfl rfl HK.out _ [] (plainElem_int Tryd.underlying3 (by decide)) ?_; intro w3 hown3 hg3; have HS3 := am (HS2.out.mapped HD1.out HD3.out hown3 hg3); have HO3 := am ((HOW.out.trans HO2.out).grownRow hg3 (fun b hb => by injection hb with hb; have := HG.out.m; omega) (Nat.le_of_lt HRB.out)); have HR3 := am (show RdB R s q1 w3 from blk_grownM HR2.out HS2.out.seen hg3); have r3 : w3.cell? ⟨PR, 0, none⟩ = some (ptr R) := (blk_cell HS3.out.r 0).trans rfl; clear hown3 hg3) | (go_at_call 27; (with_reducible refine (blanks_calls R s q1 (by omega) (by omega) _ ?rd4).mono ?_); (case rd4 => exact HR3.out); rintro e w4 ⟨rfl, hr, ho⟩; rw [HG1.out] at hr; have HR4 := am hr; have HN4 := am ho; have HO4 := am (HO3.out.trans ho); have HS4 := am (HS3.out.on HG.out ho); have r4 : w4.cell? ⟨PR, 0, none⟩ = some (ptr R) := (blk_cell HS4.out.r 0).trans rfl; clear hr ho) | (go_at_call 39; (with_reducible refine (peek_ok R s b1 c HC2.out _ ?rd5).mono ?_); (case rd5 => exact HR4.out); rintro e w5 ⟨rfl, hb⟩; have HR5 := am (HR4.out.drawn hb); have HN5 := am ((On.refl R w4).drawn hb); have HO5 := am (HO4.out.drawn hb); have HS5 := am (HS4.out.on HG.out HN5.out); have r5 : w5.cell? ⟨PR, 0, none⟩ = some (ptr R) := (blk_cell HS5.out.r 0).trans rfl; have d5 := HR5.out.c1; have f5 := HR5.out.f1; have r5' : (w5.setCell ⟨R, 1, none⟩ (.int .i64 ((b1 : Int) + 1))).cell? ⟨PR, 0, none⟩ = some (ptr R) := (blk_cell (HS5.out.on HG.out ((On.refl R w5).set 1 (.int .i64 ((b1 : Int) + 1)))).r 0).trans rfl; clear hb))
 go_region_with ((go_at_call 29; (with_reducible refine (fail_calls _ _ _ _).mono ?_); rintro e w9 ⟨rfl, hb⟩; refine any_dummy w9 ⟨rfl, SevEnds.no HX.out ((HO5.out.drewN 1).drawn hb)⟩ ?_))
 all_goals trivial
theorem seen_row {W : World} {B M : Nat} {ok : Nat → Prop} {sv : Value} {l : List J} {ns : List ByteArray} (h : k25.R 25 W B ok sv l) (hs : Seen W M ns) : some M ≠ sv.ownBlock := fun hh => by
 obtain ⟨cells, hc⟩ := Kd.R_typed h M hh.symm
 exact hs.ne hc rfl
theorem OSt.named {R B V PR PD PM M : Nat} {d : Int} {a : List ByteArray × List J} {sn sv v1 : Value} {W W7 : World} {nm : List UInt8} (h : OSt R B V PR PD PM M d (a.1 ++ [bs nm]) a sn sv W) (hn : Kd.string.R 9 W7 B (fun k => k ≠ V) v1 (a.1 ++ [bs nm]))
  (hg : W.grownBy W7 sn.ownBlock) (hat : v1.ownBlock = sn.ownBlock ∨ ∃ b, v1.ownBlock = some b ∧ W.heap.size ≤ b) : OSt R B V PR PD PM M d (a.1 ++ [bs nm]) (a.1 ++ [bs nm], a.2) v1 sv (W7.setCell ⟨V, 2, none⟩ v1) := by
 have n1 : PR ≠ V := by rintro rfl; have := h.r; rw [h.v] at this; cases this
 have n2 : PD ≠ V := by rintro rfl; have := h.dd; rw [h.v] at this; cases this
 have n3 : PM ≠ V := by rintro rfl; have := h.pm; rw [h.v] at this; cases this
 have hv := blk_grown (o := .cells #[.int .i64 6, .string ⟨#[]⟩, sn, sv] 25 (0, 0)) h.v hg (Kd.R_away h.names (fun _ hk => hk))
 have nM : V ≠ M := h.seen.ne h.v
 have rM : some M ≠ sn.ownBlock := fun hh => by
  obtain ⟨cells, hc⟩ := Kd.R_typed h.names M hh.symm
  exact h.seen.ne hc rfl
 refine ⟨(blk_set 2 v1 hv).trans rfl, ?_, ?_, ?_, ?_, Kd.R_far hn (fun _ hk => hk) _, ?_⟩
 ·exact (Below.heap_setCell _ _ _ _ n1).trans (blk_grown (o := .cells #[ptr R] 47 (0, 0)) h.r hg (Kd.R_ne h.names h.r (by decide)))
 ·exact (Below.heap_setCell _ _ _ _ n2).trans (blk_grown (o := .cells #[.int .i64 d] 3 (0, 0)) h.dd hg (Kd.R_ne h.names h.dd (by decide)))
 ·exact (Below.heap_setCell _ _ _ _ n3).trans (blk_grown (o := .cells #[.map (some M)] 97 (0, 0)) h.pm hg (Kd.R_ne h.names h.pm (by decide)))
 ·exact h.seen.move ((Below.heap_setCell _ _ _ _ (Ne.symm nM)).trans (hg.block M h.seen.lt rM))
 ·exact Kd.R_far (Kd.R_after h.items hg hat) (fun _ hk => hk.1) _
set_option maxRecDepth 1000000 in
set_option maxHeartbeats 4000000 in
theorem obj1_G (R : Nat) (s : ByteArray) (k r V PR PD PM M : Nat) (d p0 : Int) (W0 : World) (hl : s.size ≤ 10000000000) (hR0 : RdB R s p0 W0) (hT : Tabs W0) (hG : OGeo R W0.heap.size V PR PD PM M) (hVal : ValOK R s k r (wrap64 (d + 1)))
  (a : List ByteArray × List J) (q : Nat) (o : Out (List ByteArray × List J)) (W : World) (hq : q ≤ s.size) (h : Inv R s W0 (OI R W0.heap.size V PR PD PM M d) a q W) (h1 : s.data.toList[q]? = some 34) (nm : List UInt8) (q1' : Nat) (h2 : textF s.data.toList k [] (q + 1) = some (.val nm q1')) (hm : nm ∉ a.1.map (fun b => b.data.toList)) (h4 : s.data.toList[blanksF s.data.toList q1']? = some 58) (e q1 : Nat) (h5 : valueF s.data.toList k r (blanksF s.data.toList (blanksF s.data.toList q1' + 1)) = some (.err e q1)) (h3 : o = .err e q1) :
  Calls Tryd.prog 69 #[.pointer (some ⟨PR, 0, none⟩), .pointer (some ⟨PM, 0, none⟩), .pointer (some ⟨V, 0, none⟩), .pointer (some ⟨PD, 0, none⟩)] W (SevEnds R s W0 (OI R W0.heap.size V PR PD PM M d) o) := by
 obtain ⟨hR, hO, hlq, hnq, sn, sv, hS⟩ := h
 obtain ⟨A, c, esv⟩ := Kd.R_slice hS.items
 subst esv
 have HT := am (fun (w : World) (ho : On R W0 w) => hT.on hR0 ho)
 have HR := am hR
 have HOW := am hO
 have HS := am hS
 have HG := am hG
 have HRB := am hR0.lt
 have HRW := am hR.lt
 have HVal := am hVal
 have r0 : W.cell? ⟨PR, 0, none⟩ = some (ptr R) := (blk_cell hS.r 0).trans rfl
 have c1 := hR.c1
 clear hR hO hS hR0 hT hVal hG
 have HC := am h1
 have hlt := at_lt' h1
 have hltb := at_lt' h4
 have e34 : (((34 : UInt8).toNat : Int) != 34) = false := by decide
 have e58 : (((58 : UInt8).toNat : Int) != 58) = false := by decide
 have HE := am h2
 have HC2 := am h4
 have ht1 := textF_val _ _ _ _ _ _ h2
 have ht2 := textF_len _ _ _ _ _ _ h2
 rw [size_data] at ht1
 rw [List.length_nil] at ht2
 have HK := am (key_bs nm (by unfold maxLen; omega))
 have hb1 := blanks_ge s.data.toList q1'
 have hb3 := blanks_ge s.data.toList (blanksF s.data.toList q1' + 1)
 have hb4 := blanks_le s.data.toList (blanksF s.data.toList q1' + 1) (by rw [size_data]; omega)
 rw [size_data] at hb4
 have HE8 := am h5
 have HX := am h3
 clear h1 h2 h4 h5 h3
 generalize hg2 : blanksF s.data.toList (blanksF s.data.toList q1' + 1) = b2 at *
 generalize hg1 : blanksF s.data.toList q1' = b1 at *
 have HG1 := am hg1
 have HG2 := am hg2
 clear hg1 hg2
 go_enter Tryd.func69, Tryd.ntmps69
 go_wp2_with (first | (go_at_call 39; (with_reducible refine (peek_ok R s q 34 HC.out _ ?rd1).mono ?_); (case rd1 => exact HR.out); rintro e w1 ⟨rfl, hb⟩; have HR1 := am (HR.out.drawn hb); have HO1 := am ((On.refl R W).drawn hb); have HS1 := am (HS.out.on HG.out HO1.out); have r1 : w1.cell? ⟨PR, 0, none⟩ = some (ptr R) := (blk_cell HS1.out.r 0).trans rfl; have d1 := HR1.out.c1; clear hb) | (go_at_call 42; (with_reducible refine (Calls.val_of (text_calls R s q k _ hl hlt _ ?rd2 ?tb2 HE.out) rfl).mono ?_); (case rd2 => exact HR1.out); (case tb2 => exact HT.out _ (HOW.out.trans HO1.out)); rintro e w2 ⟨v, rfl, hv, hr, ho⟩; subst hv; have HO2 := am (HO1.out.trans ho); have HR2 := am hr; have HS2 := am (HS.out.on HG.out HO2.out); have r2 : w2.cell? ⟨PR, 0, none⟩ = some (ptr R) := (blk_cell HS2.out.r 0).trans rfl; have m2 : w2.cell? ⟨PM, 0, none⟩ = some (.map (some M)) := (blk_cell HS2.out.pm 0).trans rfl; clear hr ho) | (at_lookup; obtain ⟨D, hD1, hD2, hD3⟩ := HS2.out.seen; refine wpList_lookup_own_int _ rfl _ _ 97 rfl 9 3 .i64 key9 Tryd.underlying97 Tryd.underlying3 (zero3 _) M a.1.length D rfl hD2 (.string (bs nm)) (.string nm) rfl HK.out ?_; intro cc hat hwc; rw [hD3 nm, if_neg hm] at hat; injection hat with hat; injection hat with _ hat; subst hat; have HD1 := am hD1; have HD2 := am hD2; have HD3 := am hD3; clear hD1 hD2 hD3 hwc) | (at_mapUpdate; refine wpList_mapUpdate_own _ rfl _ _ _ 97 rfl 9 3 key9 Tryd.underlying97 _ M a.1.length _ rfl HD2.out (by unfold maxLen; omega) _ _ _ rfl rfl HK.out _ [] (plainElem_int Tryd.underlying3 (by decide)) ?_; intro w3 hown3 hg3; have HS3 := am (HS2.out.mapped HD1.out HD3.out hown3 hg3); have HO3 := am ((HOW.out.trans HO2.out).grownRow hg3 (fun b hb => by injection hb with hb; have := HG.out.m; omega) (Nat.le_of_lt HRB.out)); have HR3 := am (show RdB R s q1' w3 from blk_grownM HR2.out HS2.out.seen hg3); have r3 : w3.cell? ⟨PR, 0, none⟩ = some (ptr R) := (blk_cell HS3.out.r 0).trans rfl; clear hown3 hg3) | (go_at_call 27; (with_reducible refine (blanks_calls R s q1' (by omega) (by omega) _ ?rd4).mono ?_); (case rd4 => exact HR3.out); rintro e w4 ⟨rfl, hr, ho⟩; rw [HG1.out] at hr; have HR4 := am hr; have HN4 := am ho; have HO4 := am (HO3.out.trans ho); have HS4 := am (HS3.out.on HG.out ho); have r4 : w4.cell? ⟨PR, 0, none⟩ = some (ptr R) := (blk_cell HS4.out.r 0).trans rfl; clear hr ho) | (go_at_call 39; (with_reducible refine (peek_ok R s b1 58 HC2.out _ ?rd5).mono ?_); (case rd5 => exact HR4.out); rintro e w5 ⟨rfl, hb⟩; have HR5 := am (HR4.out.drawn hb); have HN5 := am ((On.refl R w4).drawn hb); have HO5 := am (HO4.out.drawn hb); have HS5 := am (HS4.out.on HG.out HN5.out); have r5 : w5.cell? ⟨PR, 0, none⟩ = some (ptr R) := (blk_cell HS5.out.r 0).trans rfl; have d5 := HR5.out.c1; have f5 := HR5.out.f1; have r5' : (w5.setCell ⟨R, 1, none⟩ (.int .i64 ((b1 : Int) + 1))).cell? ⟨PR, 0, none⟩ = some (ptr R) := (blk_cell (HS5.out.on HG.out ((On.refl R w5).set 1 (.int .i64 ((b1 : Int) + 1)))).r 0).trans rfl; clear hb) | (go_at_call 27; (with_reducible refine (blanks_calls R s (b1 + 1) (by omega) (by omega) _ ?rd6).mono ?_); (case rd6 => exact HR5.out.set _); rintro e w6 ⟨rfl, hr, ho⟩; rw [HG2.out] at hr; have HR6 := am hr; have HO6 := am ((HO5.out.set 1 _).trans ho); have HS6 := am (HS5.out.on HG.out (((On.refl R w5).set 1 _).trans ho)); obtain ⟨An, cn, en⟩ := Kd.R_slice HS6.out.names; subst en; have v6 : w6.cell? ⟨V, 2, none⟩ = some (.slice An a.1.length cn) := (blk_cell HS6.out.v 2).trans rfl; clear hr ho) | (at_builtin; refine Kd.R_append Kd.string (w0 := w6) W0.heap.size rfl (.tmp 51) (.tmp 53) 22 9 (.string ⟨#[]⟩) 16 rfl Tryd.underlying22 info9 rfl (by decide) (by decide) _ a.1 (bs nm) [.string (bs nm)] (fun k => k ≠ V) (fun _ => False) rfl rfl rfl (fun _ h => h.elim) ?fr7 HS6.out.names ?bl7 ?bs7 (by omega) ?_; (case fr7 => intro k hk; have := lt_of_block HS6.out.v; omega); (case bl7 => exact Below.refl _ _); (case bs7 => exact HO6.out.size); intro v1 w7 hn7 _ hg7 hat7; obtain ⟨A7, c7, e7⟩ := Kd.R_slice hn7; rw [List.length_append, List.length_singleton] at e7; subst e7; have HS7 := am (HS6.out.named hn7 hg7 hat7); have HO7 := am (HO6.out.grownRow hg7 (fun b hb => Kd.R_base HS6.out.names b hb) (Nat.le_of_lt HRB.out)); have HR7 := am (show RdB R s b2 w7 from (hg7.block R HR6.out.lt (fun hh => by have := Kd.R_base HS6.out.names R hh.symm; have := HRB.out; omega)).trans HR6.out); have HV7 := am (blk_grown (o := .cells #[.int .i64 6, .string ⟨#[]⟩, .slice An a.1.length cn, (.slice A a.2.length c)] 25 (0, 0)) HS6.out.v hg7 (Kd.R_away HS6.out.names (fun _ hk => hk))); have v7 : w7.cell? ⟨V, 2, none⟩ = some (.slice An a.1.length cn) := (blk_cell HV7.out 2).trans rfl; have x7 := blk_free HV7.out 2; clear hn7 hg7 hat7))
 have HR8 := am (show RdB R s b2 (w7.setCell ⟨V, 2, none⟩ (.slice A7 (a.1.length + 1) c7)) from (Below.heap_setCell _ _ _ _ (by show R ≠ V; have := HRB.out; have := HG.out.v; omega)).trans HR7.out)
 have HO8 := am (HO7.out.new V 2 (.slice A7 (a.1.length + 1) c7) HG.out.v (Nat.le_of_lt HRB.out))
 clear r0 c1 r1 d1 r2 m2 r3 r4 r5 d5 f5 r5' v6 v7 x7 HR HOW HS HRW
 have HS := HS7
 clear HS7 HR1 HO1 HS1 HO2 HR2 HS2 HD1 HD2 HD3 HS3 HO3 HR3 HR4 HN4 HO4 HS4 HR5 HN5 HO5 HS5 HR6 HO6 HS6 HO7 HR7 HV7 HC HC2 HK HE HG1 HG2 e34 e58
 generalize w7.setCell ⟨V, 2, none⟩ (.slice A7 (a.1.length + 1) c7) = w8 at HS HR8 HO8 ⊢
 have HRW := am HR8.out.lt
 have HT8 := am (fun (w : World) (ho : On R w8 w) => HT.out _ (HO8.out.trans ho))
 refine start_ (n := 13) (S := fun w' => w'.cell? ⟨V, 3, none⟩ = some (.slice A a.2.length c) ∧ w'.cell? ⟨PR, 0, none⟩ = some (ptr R) ∧ w'.cell? ⟨PD, 0, none⟩ = some (.int .i64 d)) (ds := [10, 12]) #[false, false, false, false, false, false, false, false, false, false, false, false, false] (by kernel_rfl) rfl rfl ⟨(blk_cell HS.out.v 3).trans rfl, (blk_cell HS.out.r 0).trans rfl, (blk_cell HS.out.dd 0).trans rfl⟩ (fun hHeld => ?_)
 have HR2 := am (show RdB R s b2 w8.drew from HR8.out.drew)
 have HO2 := am (show On R w8 w8.drew from (On.refl R w8).drewN 1)
 generalize w8.drew = w2 at HR2 HO2 hHeld ⊢
 have HS2 := am (HS.out.on HG.out HO2.out)
 refine pure_ (i := 0) (N := some 56) (v := ?_) (a' := ?_) #[true, false, false, false, false, false, false, false, false, false, false, false, false] rfl rfl (by kernel_rfl) (fun _ _ _ h => h) (Or.inl ⟨by rfl, ?_⟩) ?_ ?_
 rotate_left
 ·intro w'
  go_simp
  with_reducible rfl
 rotate_left
 ·simp only [Act.put, sAx, sZx, sSx, i64_w, i32_w]
  rfl
 refine take_ (i := 1) (N := some 57) (v := ?_) (a' := ?_) #[true, true, false, false, false, false, false, false, false, false, false, false, false] rfl rfl (by kernel_rfl) (fun _ _ _ h => h) (Or.inl ⟨by rfl, ?_⟩) hHeld ?_ ?_
 rotate_left
 ·rintro w' ⟨s0, s1, s2⟩
  go_simp
  with_reducible rfl
 rotate_left
 ·simp only [Act.put, sAx, sZx, sSx, i64_w, i32_w]
  rfl
 refine take_ (i := 2) (N := some 58) (v := ?_) (a' := ?_) #[true, true, true, false, false, false, false, false, false, false, false, false, false] rfl rfl (by kernel_rfl) (fun _ _ _ h => h) (Or.inl ⟨by rfl, ?_⟩) hHeld ?_ ?_
 rotate_left
 ·rintro w' ⟨s0, s1, s2⟩
  go_simp
  with_reducible rfl
 rotate_left
 ·simp only [Act.put, sAx, sZx, sSx, i64_w, i32_w]
  rfl
 refine take_ (i := 3) (N := some 59) (v := ?_) (a' := ?_) #[true, true, true, true, false, false, false, false, false, false, false, false, false] rfl rfl (by kernel_rfl) (fun _ _ _ h => h) (Or.inl ⟨by rfl, ?_⟩) hHeld ?_ ?_
 rotate_left
 ·rintro w' ⟨s0, s1, s2⟩
  go_simp
  with_reducible rfl
 rotate_left
 ·simp only [Act.put, sAx, sZx, sSx, i64_w, i32_w]
  rfl
 refine pure_ (i := 4) (N := some 60) (v := ?_) (a' := ?_) #[true, true, true, true, true, false, false, false, false, false, false, false, false] rfl rfl (by kernel_rfl) (fun _ _ _ h => h) (Or.inl ⟨by rfl, ?_⟩) ?_ ?_
 rotate_left
 ·intro w'
  go_simp
  with_reducible rfl
 rotate_left
 ·simp only [Act.put, sAx, sZx, sSx, i64_w, i32_w]
  rfl
 refine pure_ (i := 6) (N := some 62) (v := ?_) (a' := ?_) #[true, true, true, true, true, false, true, false, false, false, false, false, false] rfl rfl (by kernel_rfl) (fun _ _ _ h => h) (Or.inl ⟨by rfl, ?_⟩) ?_ ?_
 rotate_left
 ·intro w'
  go_simp
  with_reducible rfl
 rotate_left
 ·simp only [Act.put, sAx, sZx, sSx, i64_w, i32_w]
  rfl
 refine two_ (i := 5) (j := 7) (Ni := some 61) (Nj := some 63) #[true, true, true, true, true, true, true, false, false, false, false, false, false] #[true, true, true, true, true, false, true, true, false, false, false, false, false] rfl rfl rfl rfl (by kernel_rfl) (by decide) (by decide) (fun K hK => ?_) (fun K hK => ?_)
 ·refine callP_ Tryd.func28 (by kernel_rfl) rfl #[ptr R, .int .i64 (wrap64 (d + 1))] (by rfl) rfl rfl (by (try simp only [List.map_toArray, List.map_cons, List.map_nil]); first | done | rfl) ?_
  refine (Calls.err_of (HVal.out b2 _ _ hb4 HE8.out HR2.out (HT8.out _ HO2.out)) rfl).mono ?_
  rintro e w3 ⟨rfl, ho⟩
  exact .inr ⟨_, rfl, rfl, SevEnds.no HX.out (HO8.out.trans (HO2.out.trans ho))⟩
 ·refine value_ (w1 := ?_) (v := ?_) (by rfl) rfl ?_ ?_
  rotate_left 2
  ·go_simp
   constructor
   ·rfl
   ·rfl
  have HO3 := am (HO2.out.alloc (Nat.le_of_lt HRW.out) (Obj.cells #[.int .i64 0, .string ⟨#[]⟩, .slice none 0 0, .slice none 0 0] 25))
  have HR3 := am (HR2.out.below (below_alloc (Below.refl _ _) (Obj.cells #[.int .i64 0, .string ⟨#[]⟩, .slice none 0 0, .slice none 0 0] 25)))
  have HS3 := am (HS.out.on HG.out HO3.out)
  refine hK.out _ _ ⟨(blk_cell HS3.out.v 3).trans rfl, (blk_cell HS3.out.r 0).trans rfl, (blk_cell HS3.out.dd 0).trans rfl⟩ (fun hHeld => ?_)
  clear hK K
  refine norm_ (a' := ?_) ?_ ?_
  rotate_left
  ·show Act.put _ (some 63) _ = _
   simp only [Act.put, sAx, sZx, sSx, i64_w, i32_w]
   rfl
  refine one_ (i := 5) (N := some 61) #[true, true, true, true, true, true, true, true, false, false, false, false, false] rfl rfl (by kernel_rfl) (by decide) (fun K hK => ?_)
  refine callP_ Tryd.func28 (by kernel_rfl) rfl #[ptr R, .int .i64 (wrap64 (d + 1))] (by rfl) rfl rfl (by (try simp only [List.map_toArray, List.map_cons, List.map_nil]); first | done | rfl) ?_
  refine (Calls.err_of (HVal.out b2 _ _ hb4 HE8.out HR3.out (HT8.out _ HO3.out)) rfl).mono ?_
  rintro e w3 ⟨rfl, ho⟩
  exact .inr ⟨_, rfl, rfl, SevEnds.no HX.out (HO8.out.trans (HO3.out.trans ho))⟩
set_option maxRecDepth 1000000 in
set_option maxHeartbeats 4000000 in
theorem obj1_H (R : Nat) (s : ByteArray) (k r V PR PD PM M : Nat) (d p0 : Int) (W0 : World) (hl : s.size ≤ 10000000000) (hR0 : RdB R s p0 W0) (hT : Tabs W0) (hG : OGeo R W0.heap.size V PR PD PM M) (hVal : ValOK R s k r (wrap64 (d + 1)))
  (a : List ByteArray × List J) (q : Nat) (o : Out (List ByteArray × List J)) (W : World) (hq : q ≤ s.size) (h : Inv R s W0 (OI R W0.heap.size V PR PD PM M d) a q W) (h1 : s.data.toList[q]? = some 34) (nm : List UInt8) (q1' : Nat) (h2 : textF s.data.toList k [] (q + 1) = some (.val nm q1')) (hm : nm ∉ a.1.map (fun b => b.data.toList)) (h4 : s.data.toList[blanksF s.data.toList q1']? = some 58) (j : J) (q1 : Nat) (h5 : valueF s.data.toList k r (blanksF s.data.toList (blanksF s.data.toList q1' + 1)) = some (.val j q1)) (hqq : blanksF s.data.toList (blanksF s.data.toList q1' + 1) < q1) (h3 : o = .val (a.1 ++ [bs nm], a.2 ++ [j]) q1) :
  Calls Tryd.prog 69 #[.pointer (some ⟨PR, 0, none⟩), .pointer (some ⟨PM, 0, none⟩), .pointer (some ⟨V, 0, none⟩), .pointer (some ⟨PD, 0, none⟩)] W (SevEnds R s W0 (OI R W0.heap.size V PR PD PM M d) o) := by
 obtain ⟨hR, hO, hlq, hnq, sn, sv, hS⟩ := h
 obtain ⟨A, c, esv⟩ := Kd.R_slice hS.items
 subst esv
 have HT := am (fun (w : World) (ho : On R W0 w) => hT.on hR0 ho)
 have HR := am hR
 have HOW := am hO
 have HS := am hS
 have HG := am hG
 have HRB := am hR0.lt
 have HRW := am hR.lt
 have HVal := am hVal
 have r0 : W.cell? ⟨PR, 0, none⟩ = some (ptr R) := (blk_cell hS.r 0).trans rfl
 have c1 := hR.c1
 clear hR hO hS hR0 hT hVal hG
 have HC := am h1
 have hlt := at_lt' h1
 have hltb := at_lt' h4
 have e34 : (((34 : UInt8).toNat : Int) != 34) = false := by decide
 have e58 : (((58 : UInt8).toNat : Int) != 58) = false := by decide
 have HE := am h2
 have HC2 := am h4
 have ht1 := textF_val _ _ _ _ _ _ h2
 have ht2 := textF_len _ _ _ _ _ _ h2
 rw [size_data] at ht1
 rw [List.length_nil] at ht2
 have HK := am (key_bs nm (by unfold maxLen; omega))
 have hb1 := blanks_ge s.data.toList q1'
 have hb3 := blanks_ge s.data.toList (blanksF s.data.toList q1' + 1)
 have hb4 := blanks_le s.data.toList (blanksF s.data.toList q1' + 1) (by rw [size_data]; omega)
 rw [size_data] at hb4
 have HE8 := am h5
 have HX := am h3
 clear h1 h2 h4 h5 h3
 generalize hg2 : blanksF s.data.toList (blanksF s.data.toList q1' + 1) = b2 at *
 generalize hg1 : blanksF s.data.toList q1' = b1 at *
 have HG1 := am hg1
 have HG2 := am hg2
 clear hg1 hg2
 go_enter Tryd.func69, Tryd.ntmps69
 go_wp2_with (first | (go_at_call 39; (with_reducible refine (peek_ok R s q 34 HC.out _ ?rd1).mono ?_); (case rd1 => exact HR.out); rintro e w1 ⟨rfl, hb⟩; have HR1 := am (HR.out.drawn hb); have HO1 := am ((On.refl R W).drawn hb); have HS1 := am (HS.out.on HG.out HO1.out); have r1 : w1.cell? ⟨PR, 0, none⟩ = some (ptr R) := (blk_cell HS1.out.r 0).trans rfl; have d1 := HR1.out.c1; clear hb) | (go_at_call 42; (with_reducible refine (Calls.val_of (text_calls R s q k _ hl hlt _ ?rd2 ?tb2 HE.out) rfl).mono ?_); (case rd2 => exact HR1.out); (case tb2 => exact HT.out _ (HOW.out.trans HO1.out)); rintro e w2 ⟨v, rfl, hv, hr, ho⟩; subst hv; have HO2 := am (HO1.out.trans ho); have HR2 := am hr; have HS2 := am (HS.out.on HG.out HO2.out); have r2 : w2.cell? ⟨PR, 0, none⟩ = some (ptr R) := (blk_cell HS2.out.r 0).trans rfl; have m2 : w2.cell? ⟨PM, 0, none⟩ = some (.map (some M)) := (blk_cell HS2.out.pm 0).trans rfl; clear hr ho) | (at_lookup; obtain ⟨D, hD1, hD2, hD3⟩ := HS2.out.seen; refine wpList_lookup_own_int _ rfl _ _ 97 rfl 9 3 .i64 key9 Tryd.underlying97 Tryd.underlying3 (zero3 _) M a.1.length D rfl hD2 (.string (bs nm)) (.string nm) rfl HK.out ?_; intro cc hat hwc; rw [hD3 nm, if_neg hm] at hat; injection hat with hat; injection hat with _ hat; subst hat; have HD1 := am hD1; have HD2 := am hD2; have HD3 := am hD3; clear hD1 hD2 hD3 hwc) | (at_mapUpdate; refine wpList_mapUpdate_own _ rfl _ _ _ 97 rfl 9 3 key9 Tryd.underlying97 _ M a.1.length _ rfl HD2.out (by unfold maxLen; omega) _ _ _ rfl rfl HK.out _ [] (plainElem_int Tryd.underlying3 (by decide)) ?_; intro w3 hown3 hg3; have HS3 := am (HS2.out.mapped HD1.out HD3.out hown3 hg3); have HO3 := am ((HOW.out.trans HO2.out).grownRow hg3 (fun b hb => by injection hb with hb; have := HG.out.m; omega) (Nat.le_of_lt HRB.out)); have HR3 := am (show RdB R s q1' w3 from blk_grownM HR2.out HS2.out.seen hg3); have r3 : w3.cell? ⟨PR, 0, none⟩ = some (ptr R) := (blk_cell HS3.out.r 0).trans rfl; clear hown3 hg3) | (go_at_call 27; (with_reducible refine (blanks_calls R s q1' (by omega) (by omega) _ ?rd4).mono ?_); (case rd4 => exact HR3.out); rintro e w4 ⟨rfl, hr, ho⟩; rw [HG1.out] at hr; have HR4 := am hr; have HN4 := am ho; have HO4 := am (HO3.out.trans ho); have HS4 := am (HS3.out.on HG.out ho); have r4 : w4.cell? ⟨PR, 0, none⟩ = some (ptr R) := (blk_cell HS4.out.r 0).trans rfl; clear hr ho) | (go_at_call 39; (with_reducible refine (peek_ok R s b1 58 HC2.out _ ?rd5).mono ?_); (case rd5 => exact HR4.out); rintro e w5 ⟨rfl, hb⟩; have HR5 := am (HR4.out.drawn hb); have HN5 := am ((On.refl R w4).drawn hb); have HO5 := am (HO4.out.drawn hb); have HS5 := am (HS4.out.on HG.out HN5.out); have r5 : w5.cell? ⟨PR, 0, none⟩ = some (ptr R) := (blk_cell HS5.out.r 0).trans rfl; have d5 := HR5.out.c1; have f5 := HR5.out.f1; have r5' : (w5.setCell ⟨R, 1, none⟩ (.int .i64 ((b1 : Int) + 1))).cell? ⟨PR, 0, none⟩ = some (ptr R) := (blk_cell (HS5.out.on HG.out ((On.refl R w5).set 1 (.int .i64 ((b1 : Int) + 1)))).r 0).trans rfl; clear hb) | (go_at_call 27; (with_reducible refine (blanks_calls R s (b1 + 1) (by omega) (by omega) _ ?rd6).mono ?_); (case rd6 => exact HR5.out.set _); rintro e w6 ⟨rfl, hr, ho⟩; rw [HG2.out] at hr; have HR6 := am hr; have HO6 := am ((HO5.out.set 1 _).trans ho); have HS6 := am (HS5.out.on HG.out (((On.refl R w5).set 1 _).trans ho)); obtain ⟨An, cn, en⟩ := Kd.R_slice HS6.out.names; subst en; have v6 : w6.cell? ⟨V, 2, none⟩ = some (.slice An a.1.length cn) := (blk_cell HS6.out.v 2).trans rfl; clear hr ho) | (at_builtin; refine Kd.R_append Kd.string (w0 := w6) W0.heap.size rfl (.tmp 51) (.tmp 53) 22 9 (.string ⟨#[]⟩) 16 rfl Tryd.underlying22 info9 rfl (by decide) (by decide) _ a.1 (bs nm) [.string (bs nm)] (fun k => k ≠ V) (fun _ => False) rfl rfl rfl (fun _ h => h.elim) ?fr7 HS6.out.names ?bl7 ?bs7 (by omega) ?_; (case fr7 => intro k hk; have := lt_of_block HS6.out.v; omega); (case bl7 => exact Below.refl _ _); (case bs7 => exact HO6.out.size); intro v1 w7 hn7 _ hg7 hat7; obtain ⟨A7, c7, e7⟩ := Kd.R_slice hn7; rw [List.length_append, List.length_singleton] at e7; subst e7; have HS7 := am (HS6.out.named hn7 hg7 hat7); have HO7 := am (HO6.out.grownRow hg7 (fun b hb => Kd.R_base HS6.out.names b hb) (Nat.le_of_lt HRB.out)); have HR7 := am (show RdB R s b2 w7 from (hg7.block R HR6.out.lt (fun hh => by have := Kd.R_base HS6.out.names R hh.symm; have := HRB.out; omega)).trans HR6.out); have HV7 := am (blk_grown (o := .cells #[.int .i64 6, .string ⟨#[]⟩, .slice An a.1.length cn, (.slice A a.2.length c)] 25 (0, 0)) HS6.out.v hg7 (Kd.R_away HS6.out.names (fun _ hk => hk))); have v7 : w7.cell? ⟨V, 2, none⟩ = some (.slice An a.1.length cn) := (blk_cell HV7.out 2).trans rfl; have x7 := blk_free HV7.out 2; clear hn7 hg7 hat7))
 have HR8 := am (show RdB R s b2 (w7.setCell ⟨V, 2, none⟩ (.slice A7 (a.1.length + 1) c7)) from (Below.heap_setCell _ _ _ _ (by show R ≠ V; have := HRB.out; have := HG.out.v; omega)).trans HR7.out)
 have HO8 := am (HO7.out.new V 2 (.slice A7 (a.1.length + 1) c7) HG.out.v (Nat.le_of_lt HRB.out))
 clear r0 c1 r1 d1 r2 m2 r3 r4 r5 d5 f5 r5' v6 v7 x7 HR HOW HS HRW
 have HS := HS7
 clear HS7 HR1 HO1 HS1 HO2 HR2 HS2 HD1 HD2 HD3 HS3 HO3 HR3 HR4 HN4 HO4 HS4 HR5 HN5 HO5 HS5 HR6 HO6 HS6 HO7 HR7 HV7 HC HC2 HK HE HG1 HG2 e34 e58
 generalize w7.setCell ⟨V, 2, none⟩ (.slice A7 (a.1.length + 1) c7) = w8 at HS HR8 HO8 ⊢
 have HRW := am HR8.out.lt
 have HT8 := am (fun (w : World) (ho : On R w8 w) => HT.out _ (HO8.out.trans ho))
 refine start_ (n := 13) (S := fun w' => w'.cell? ⟨V, 3, none⟩ = some (.slice A a.2.length c) ∧ w'.cell? ⟨PR, 0, none⟩ = some (ptr R) ∧ w'.cell? ⟨PD, 0, none⟩ = some (.int .i64 d)) (ds := [10, 12]) #[false, false, false, false, false, false, false, false, false, false, false, false, false] (by kernel_rfl) rfl rfl ⟨(blk_cell HS.out.v 3).trans rfl, (blk_cell HS.out.r 0).trans rfl, (blk_cell HS.out.dd 0).trans rfl⟩ (fun hHeld => ?_)
 have HR2 := am (show RdB R s b2 w8.drew from HR8.out.drew)
 have HO2 := am (show On R w8 w8.drew from (On.refl R w8).drewN 1)
 generalize w8.drew = w2 at HR2 HO2 hHeld ⊢
 have HS2 := am (HS.out.on HG.out HO2.out)
 refine pure_ (i := 0) (N := some 56) (v := ?_) (a' := ?_) #[true, false, false, false, false, false, false, false, false, false, false, false, false] rfl rfl (by kernel_rfl) (fun _ _ _ h => h) (Or.inl ⟨by rfl, ?_⟩) ?_ ?_
 rotate_left
 ·intro w'
  go_simp
  with_reducible rfl
 rotate_left
 ·simp only [Act.put, sAx, sZx, sSx, i64_w, i32_w]
  rfl
 refine take_ (i := 1) (N := some 57) (v := ?_) (a' := ?_) #[true, true, false, false, false, false, false, false, false, false, false, false, false] rfl rfl (by kernel_rfl) (fun _ _ _ h => h) (Or.inl ⟨by rfl, ?_⟩) hHeld ?_ ?_
 rotate_left
 ·rintro w' ⟨s0, s1, s2⟩
  go_simp
  with_reducible rfl
 rotate_left
 ·simp only [Act.put, sAx, sZx, sSx, i64_w, i32_w]
  rfl
 refine take_ (i := 2) (N := some 58) (v := ?_) (a' := ?_) #[true, true, true, false, false, false, false, false, false, false, false, false, false] rfl rfl (by kernel_rfl) (fun _ _ _ h => h) (Or.inl ⟨by rfl, ?_⟩) hHeld ?_ ?_
 rotate_left
 ·rintro w' ⟨s0, s1, s2⟩
  go_simp
  with_reducible rfl
 rotate_left
 ·simp only [Act.put, sAx, sZx, sSx, i64_w, i32_w]
  rfl
 refine take_ (i := 3) (N := some 59) (v := ?_) (a' := ?_) #[true, true, true, true, false, false, false, false, false, false, false, false, false] rfl rfl (by kernel_rfl) (fun _ _ _ h => h) (Or.inl ⟨by rfl, ?_⟩) hHeld ?_ ?_
 rotate_left
 ·rintro w' ⟨s0, s1, s2⟩
  go_simp
  with_reducible rfl
 rotate_left
 ·simp only [Act.put, sAx, sZx, sSx, i64_w, i32_w]
  rfl
 refine pure_ (i := 4) (N := some 60) (v := ?_) (a' := ?_) #[true, true, true, true, true, false, false, false, false, false, false, false, false] rfl rfl (by kernel_rfl) (fun _ _ _ h => h) (Or.inl ⟨by rfl, ?_⟩) ?_ ?_
 rotate_left
 ·intro w'
  go_simp
  with_reducible rfl
 rotate_left
 ·simp only [Act.put, sAx, sZx, sSx, i64_w, i32_w]
  rfl
 refine pure_ (i := 6) (N := some 62) (v := ?_) (a' := ?_) #[true, true, true, true, true, false, true, false, false, false, false, false, false] rfl rfl (by kernel_rfl) (fun _ _ _ h => h) (Or.inl ⟨by rfl, ?_⟩) ?_ ?_
 rotate_left
 ·intro w'
  go_simp
  with_reducible rfl
 rotate_left
 ·simp only [Act.put, sAx, sZx, sSx, i64_w, i32_w]
  rfl
 refine join_ (σ := Value × Value × Nat) 5 #[true, true, true, true, true, true, true, true, false, false, false, false, false] (fun s_ => [(61, .agg #[.int .i64 j.f0, .string j.f1, s_.1, s_.2.1]), (63, .slice (some ⟨s_.2.2, 0, none⟩) 1 1)]) (fun s_ w' => RdB R s q1 w' ∧ On R w8 w' ∧ k25.M w' W0.heap.size (fun b => w8.heap.size ≤ b) j [.int .i64 j.f0, .string j.f1, s_.1, s_.2.1] ∧ w'.heap[s_.2.2]? = some (.cells #[.int .i64 0, .string ⟨#[]⟩, .slice none 0 0, .slice none 0 0] 25 (0, 0))) ?_ ?_
 rotate_left
 ·intro hCont
  refine two_ (i := 5) (j := 7) (Ni := some 61) (Nj := some 63) #[true, true, true, true, true, true, true, false, false, false, false, false, false] #[true, true, true, true, true, false, true, true, false, false, false, false, false] rfl rfl rfl rfl (by kernel_rfl) (by decide) (by decide) (fun K hK => ?_) (fun K hK => ?_)
  ·refine callP_ Tryd.func28 (by kernel_rfl) rfl #[ptr R, .int .i64 (wrap64 (d + 1))] (by rfl) rfl rfl (by (try simp only [List.map_toArray, List.map_cons, List.map_nil]); first | done | rfl) ?_
   refine (Calls.val_of (HVal.out b2 _ _ hb4 HE8.out HR2.out (HT8.out _ HO2.out)) rfl).mono ?_
   rintro e w3 ⟨v, rfl, ⟨v2, v3, rfl, g2, g3⟩, hr, ho⟩
   refine .inl ⟨_, rfl, ?_⟩
   have HO3 := am (HO2.out.trans ho)
   have HR3 := am hr
   have HM3 := am (jV_M (B' := W0.heap.size) (N := w8.heap.size) g2 g3 (Nat.le_trans HO8.out.size HO2.out.size) HO2.out.size)
   have HS3 := am (HS.out.on HG.out HO3.out)
   clear hr ho g2 g3
   refine hK.out _ _ ⟨(blk_cell HS3.out.v 3).trans rfl, (blk_cell HS3.out.r 0).trans rfl, (blk_cell HS3.out.dd 0).trans rfl⟩ (fun hHeld => ?_)
   clear hK K
   refine norm_ (a' := ?_) ?_ ?_
   rotate_left
   ·show Act.put _ (some 61) _ = _
    simp only [Act.put, sAx, sZx, sSx, i64_w, i32_w]
    rfl
   refine one_ (i := 7) (N := some 63) #[true, true, true, true, true, true, true, true, false, false, false, false, false] rfl rfl (by kernel_rfl) (by decide) (fun K hK => ?_)
   refine value_ (w1 := ?_) (v := ?_) (by rfl) rfl ?_ ?_
   rotate_left 2
   ·go_simp
    constructor
    ·rfl
    ·rfl
   have HO4 := am (HO3.out.alloc (Nat.le_of_lt HRW.out) (Obj.cells #[.int .i64 0, .string ⟨#[]⟩, .slice none 0 0, .slice none 0 0] 25))
   have HR4 := am (HR3.out.below (below_alloc (Below.refl _ _) (Obj.cells #[.int .i64 0, .string ⟨#[]⟩, .slice none 0 0, .slice none 0 0] 25)))
   have HM4 := am (Kd.M_below HM3.out (below_alloc (Below.refl _ _) (Obj.cells #[.int .i64 0, .string ⟨#[]⟩, .slice none 0 0, .slice none 0 0] 25)))
   have HS4 := am (HS.out.on HG.out HO4.out)
   refine hK.out _ _ ⟨(blk_cell HS4.out.v 3).trans rfl, (blk_cell HS4.out.r 0).trans rfl, (blk_cell HS4.out.dd 0).trans rfl⟩ (fun hHeld => ?_)
   clear hK K
   refine norm_ (a' := ?_) ?_ ?_
   rotate_left
   ·show Act.put _ (some 63) _ = _
    simp only [Act.put, sAx, sZx, sSx, i64_w, i32_w]
    rfl
   exact norm_ (by simp only [putAll, Act.put, sAx, sZx, sSx]) (hCont (v2, v3, w3.heap.size) _ ⟨HR4.out, HO4.out, HM4.out, heap_alloc_new _ _⟩)
  ·refine value_ (w1 := ?_) (v := ?_) (by rfl) rfl ?_ ?_
   rotate_left 2
   ·go_simp
    constructor
    ·rfl
    ·rfl
   have HO3 := am (HO2.out.alloc (Nat.le_of_lt HRW.out) (Obj.cells #[.int .i64 0, .string ⟨#[]⟩, .slice none 0 0, .slice none 0 0] 25))
   have HR3 := am (HR2.out.below (below_alloc (Below.refl _ _) (Obj.cells #[.int .i64 0, .string ⟨#[]⟩, .slice none 0 0, .slice none 0 0] 25)))
   have HG3 := am (heap_alloc_new w2 (Obj.cells #[.int .i64 0, .string ⟨#[]⟩, .slice none 0 0, .slice none 0 0] 25))
   have HS3 := am (HS.out.on HG.out HO3.out)
   refine hK.out _ _ ⟨(blk_cell HS3.out.v 3).trans rfl, (blk_cell HS3.out.r 0).trans rfl, (blk_cell HS3.out.dd 0).trans rfl⟩ (fun hHeld => ?_)
   clear hK K
   refine norm_ (a' := ?_) ?_ ?_
   rotate_left
   ·show Act.put _ (some 63) _ = _
    simp only [Act.put, sAx, sZx, sSx, i64_w, i32_w]
    rfl
   refine one_ (i := 5) (N := some 61) #[true, true, true, true, true, true, true, true, false, false, false, false, false] rfl rfl (by kernel_rfl) (by decide) (fun K hK => ?_)
   refine callP_ Tryd.func28 (by kernel_rfl) rfl #[ptr R, .int .i64 (wrap64 (d + 1))] (by rfl) rfl rfl (by (try simp only [List.map_toArray, List.map_cons, List.map_nil]); first | done | rfl) ?_
   refine (Calls.val_of (HVal.out b2 _ _ hb4 HE8.out HR3.out (HT8.out _ HO3.out)) rfl).mono ?_
   rintro e w4 ⟨v, rfl, ⟨v2, v3, rfl, g2, g3⟩, hr, ho⟩
   refine .inl ⟨_, rfl, ?_⟩
   have HO4 := am (HO3.out.trans ho)
   have HR4 := am hr
   have HM4 := am (jV_M (B' := W0.heap.size) (N := w8.heap.size) g2 g3 (Nat.le_trans HO8.out.size HO3.out.size) HO3.out.size)
   have HS4 := am (HS.out.on HG.out HO4.out)
   have HG4 := am (blk_on HG3.out (by have := HO2.out.size; have := HRW.out; omega) ho)
   clear hr ho g2 g3
   refine hK.out _ _ ⟨(blk_cell HS4.out.v 3).trans rfl, (blk_cell HS4.out.r 0).trans rfl, (blk_cell HS4.out.dd 0).trans rfl⟩ (fun hHeld => ?_)
   clear hK K
   refine norm_ (a' := ?_) ?_ ?_
   rotate_left
   ·show Act.put _ (some 61) _ = _
    simp only [Act.put, sAx, sZx, sSx, i64_w, i32_w]
    rfl
   exact norm_ (by simp only [putAll, Act.put, sAx, sZx, sSx]) (hCont (v2, v3, w2.heap.size) _ ⟨HR4.out, HO4.out, HM4.out, HG4.out⟩)
 ·rintro ⟨v2, v3, g⟩ w5 ⟨hR5, hO5, hM5, hG5⟩
  dsimp only at hM5 hG5
  obtain ⟨A2, c2, A3, c3, e2, e3⟩ := M_slices hM5
  subst e2 e3
  simp only [putAll, Act.put, sAx, sZx, sSx]
  have HR5 := am hR5
  have HO5 := am hO5
  have HM5 := am hM5
  have HG5 := am hG5
  have HS5 := am (HS.out.on HG.out hO5)
  clear hR5 hO5 hM5 hG5 HR2 HO2 HS2 hHeld
  have hI5 := HS5.out.items
  obtain ⟨inner, hown, hrep⟩ := hI5.2
  have HIN := am (show w5.ownsRow W0.heap.size 25 4 (.slice A a.2.length c) a.2.length inner from hown)
  have HRP := am hrep
  have hil : inner.length = a.2.length * 4 := hrep.1
  have HI5 := am hI5
  clear hown hrep hI5
  refine one_ (i := 8) (N := some 64) #[true, true, true, true, true, true, true, true, true, false, false, false, false] rfl rfl (by kernel_rfl) (by decide) (fun K hK => ?_)
  refine app0_step (B := W0.heap.size) rfl (.tmp 57) (.tmp 63) 23 25 (.agg #[(.int .i64 0), (.string ⟨#[]⟩), (.slice none 0 0), (.slice none 0 0)]) 4 72 rfl Tryd.underlying23 info25 rfl (by decide) (by decide) (.slice A a.2.length c) a.2.length inner [.int .i64 0, .string ⟨#[]⟩, .slice none 0 0, .slice none 0 0] g rfl rfl rfl (by intro u hu; simp only [List.mem_cons, List.not_mem_nil, or_false] at hu; rcases hu with rfl | rfl | rfl | rfl <;> rfl) HG5.out HIN.out (Nat.le_trans HO8.out.size HO5.out.size) (by omega) ?_
  intro v1 w6 hown1 hg hat
  obtain ⟨g1, c1, e1⟩ := own_form hown1 (by omega)
  subst e1
  have HON := am hown1
  have HAT := am hat
  have HGR := am hg
  have HV6 := am (blk_grown (o := .cells #[.int .i64 6, .string ⟨#[]⟩, .slice A7 (a.1.length + 1) c7, .slice A a.2.length c] 25 (0, 0)) HS5.out.v hg (Kd.R_away HI5.out (fun _ hk => hk.1)))
  have HP6 := am (blk_grown (o := .cells #[ptr R] 47 (0, 0)) HS5.out.r hg (Kd.R_ne HI5.out HS5.out.r (by decide)))
  have HD6 := am (blk_grown (o := .cells #[.int .i64 d] 3 (0, 0)) HS5.out.dd hg (Kd.R_ne HI5.out HS5.out.dd (by decide)))
  have HM6 := am (blk_grown (o := .cells #[.map (some M)] 97 (0, 0)) HS5.out.pm hg (Kd.R_ne HI5.out HS5.out.pm (by decide)))
  have HSE6 := am (HS5.out.seen.move (hg.block M HS5.out.seen.lt (seen_row HI5.out HS5.out.seen)))
  have HN6 := am (Kd.R_over' HS5.out.names (Kd.R_typed HI5.out) (by decide) hg)
  have HO6 := am (HO8.out.trans HO5.out |>.grownRow hg (fun b hb => Kd.R_base HI5.out b hb) (Nat.le_of_lt HRB.out))
  have HR6 := am (show RdB R s q1 w6 from (hg.block R HR5.out.lt (fun hh => by have := Kd.R_base HI5.out R hh.symm; have := HRB.out; omega)).trans HR5.out)
  have hV1 : g1 ≠ V := by
   intro hgv
   rcases HAT.out with ha | ha
   ·exact Kd.R_away HI5.out (fun _ hk => hk.1) (hgv ▸ ha)
   ·have ha : some g1 = some w5.heap.size := ha
    injection ha with ha
    have := lt_of_block HS5.out.v
    omega
  have hgR : g1 ≠ R := by
   have h1 := own_base hown1 g1 rfl
   have := HRB.out
   omega
  have z0 : w6.cell? ⟨g1, a.2.length * 4, none⟩ = some (.int .i64 0) := (hown1.cellAt (a.2.length * 4) (by omega)).trans (getz inner a.2.length hil 0 (by omega))
  have z1 : w6.cell? ⟨g1, a.2.length * 4 + 1, none⟩ = some (.string ⟨#[]⟩) := (hown1.cellAt (a.2.length * 4 + 1) (by omega)).trans (getz inner a.2.length hil 1 (by omega))
  have z2 : w6.cell? ⟨g1, a.2.length * 4 + 2, none⟩ = some (.slice none 0 0) := (hown1.cellAt (a.2.length * 4 + 2) (by omega)).trans (getz inner a.2.length hil 2 (by omega))
  have z3 : w6.cell? ⟨g1, a.2.length * 4 + 3, none⟩ = some (.slice none 0 0) := (hown1.cellAt (a.2.length * 4 + 3) (by omega)).trans (getz inner a.2.length hil 3 (by omega))
  have y0 := hown1.frozenAt (a.2.length * 4)
  have y1 := hown1.frozenAt (a.2.length * 4 + 1)
  have y2 := hown1.frozenAt (a.2.length * 4 + 2)
  have y3 := hown1.frozenAt (a.2.length * 4 + 3)
  have x3 : w6.cell? ⟨V, 3, none⟩ = some (.slice A a.2.length c) := (blk_cell HV6.out 3).trans rfl
  have hV2 : V ≠ g1 := Ne.symm hV1
  have xf := blk_free HV6.out 3
  clear hown1 hg hat
  refine hK.out _ _ ⟨(blk_cell HV6.out 3).trans rfl, (blk_cell HP6.out 0).trans rfl, (blk_cell HD6.out 0).trans rfl⟩ (fun hHeld => ?_)
  clear hK K
  refine norm_ (a' := ?_) ?_ ?_
  rotate_left
  ·show Act.put _ (some 64) _ = _
   simp only [Act.put, sAx, sZx, sSx, i64_w, i32_w]
   rfl
  have b0 : (0 : Int) ≤ (a.2.length : Int) := by omega
  have b1 : (a.2.length : Int) < ((a.2.length + 1 : Nat) : Int) := by omega
  have b2 : (a.2.length : Int) < (a.2.length : Int) + 1 := by omega
  refine pure_ (i := 9) (N := some 65) (v := ?_) (a' := ?_) #[true, true, true, true, true, true, true, true, true, true, false, false, false] rfl rfl (by kernel_rfl) (fun _ _ _ h => h) (Or.inl ⟨by rfl, ?_⟩) ?_ ?_
  rotate_left
  ·intro w'
   go_simp
   with_reducible rfl
  rotate_left
  ·simp only [Act.put, sAx, sZx, sSx, i64_w, i32_w]
   rfl
  refine pure_ (i := 11) (N := some 66) (v := ?_) (a' := ?_) #[true, true, true, true, true, true, true, true, true, true, false, true, false] rfl rfl (by kernel_rfl) (fun _ _ _ h => h) (Or.inl ⟨by rfl, ?_⟩) ?_ ?_
  rotate_left
  ·intro w'
   go_simp
   with_reducible rfl
  rotate_left
  ·simp only [Act.put, sAx, sZx, sSx, i64_w, i32_w]
   rfl
  have FIN := am (items_fin (j := j) (ok := fun k => k ≠ V ∧ some k ≠ Value.ownBlock (.slice A7 (a.1.length + 1) c7)) (fun _ hk => hk.1) rfl HRB.out HG.out.v (lt_of_block HS.out.v) HS.out.items (fun k hk => ⟨by have := lt_of_block HS.out.v; omega, fun hh => by have := Kd.R_lt HS.out.names k hh.symm; omega⟩) HO5.out HRP.out hil HI5.out.1 HM5.out HON.out HGR.out HAT.out HV6.out HO6.out HR6.out hV1)
  refine twoL_ (i := 10) (j := 12) (Ni := none) (Nj := none) #[true, true, true, true, true, true, true, true, true, true, true, true, false] #[true, true, true, true, true, true, true, true, true, true, false, true, true] rfl rfl rfl rfl (by kernel_rfl) (by decide) (by decide) (fun K hK => ?_) (fun K hK => ?_)
  ·refine skip_ (w1 := ?_) (by rfl) rfl ?_ ?_
   rotate_left
   ·go_simp
    rfl
   refine hK.out _ _ ?_
   clear hK K
   refine last_ (i := 12) (N := none) #[true, true, true, true, true, true, true, true, true, true, true, true, true] rfl rfl (by kernel_rfl) (by decide) (fun K hK => ?_)
   refine skip_ (w1 := ?_) (by rfl) rfl ?_ ?_
   rotate_left
   ·go_simp
    rfl
   refine hK.out _ _ ?_
   clear hK K
   refine done_ (by kernel_rfl) ?_
   try go_wp2
   go_end0
   exact SevEnds.ok HX.out (OI_final (a := (a.1 ++ [bs nm], a.2)) HON.out HV6.out HP6.out HD6.out HM6.out HSE6.out HN6.out (by show a.2.length + 1 ≤ q1; omega) (by show (a.1 ++ [bs nm]).length ≤ q1; rw [List.length_append, List.length_singleton]; omega) FIN.out)
  ·refine skip_ (w1 := ?_) (by rfl) rfl ?_ ?_
   rotate_left
   ·go_simp
    rfl
   refine hK.out _ _ ?_
   clear hK K
   refine last_ (i := 10) (N := none) #[true, true, true, true, true, true, true, true, true, true, true, true, true] rfl rfl (by kernel_rfl) (by decide) (fun K hK => ?_)
   refine skip_ (w1 := ?_) (by rfl) rfl ?_ ?_
   rotate_left
   ·go_simp
    rfl
   refine hK.out _ _ ?_
   clear hK K
   refine done_ (by kernel_rfl) ?_
   try go_wp2
   go_end0
   have hcm := set4W_comm w6 V g1 a.2.length (.slice (some ⟨g1, 0, none⟩) (a.2.length + 1) c1) (.int .i64 j.f0) (.string j.f1) (.slice A2 j.f2.length c2) (.slice A3 j.f3.length c3) hV1
   have hfin := OI_final (a := (a.1 ++ [bs nm], a.2)) HON.out HV6.out HP6.out HD6.out HM6.out HSE6.out HN6.out (by show a.2.length + 1 ≤ q1; omega) (by show (a.1 ++ [bs nm]).length ≤ q1; rw [List.length_append, List.length_singleton]; omega) FIN.out
   rw [← hcm] at hfin
   exact SevEnds.ok HX.out hfin
theorem obj1_calls (R : Nat) (s : ByteArray) (k r V PR PD PM M : Nat) (d p0 : Int) (W0 : World) (hl : s.size ≤ 10000000000) (hR0 : RdB R s p0 W0) (hT : Tabs W0) (hG : OGeo R W0.heap.size V PR PD PM M) (hVal : ValOK R s k r (wrap64 (d + 1)))
  (a : List ByteArray × List J) (q : Nat) (o : Out (List ByteArray × List J)) (W : World) (hq : q ≤ s.size) (hF : oneM (valueF s.data.toList k r) s.data.toList k a q = some o) (h : Inv R s W0 (OI R W0.heap.size V PR PD PM M d) a q W) :
  Calls Tryd.prog 69 #[.pointer (some ⟨PR, 0, none⟩), .pointer (some ⟨PM, 0, none⟩), .pointer (some ⟨V, 0, none⟩), .pointer (some ⟨PD, 0, none⟩)] W (SevEnds R s W0 (OI R W0.heap.size V PR PD PM M d) o) := by
 rcases oneM_item _ _ _ _ _ _ hF with ⟨h1, h2⟩ | ⟨c, h1, h34, h2⟩ | ⟨h1, ⟨e, p, h2, h3⟩ | ⟨nm, q1, h2, ⟨hm, h3⟩ | ⟨hm, ⟨h4, h3⟩ | ⟨c, h4, h58, h3⟩ | ⟨h4, ⟨e, p, h5, h3⟩ | ⟨x, q2, h5, h3⟩⟩⟩⟩⟩
 ·exact obj1_A R s k r V PR PD PM M d p0 W0 hl hR0 hT hG hVal a q o W hq h h1 h2
 ·exact obj1_B R s k r V PR PD PM M d p0 W0 hl hR0 hT hG hVal a q o W hq h c h1 h34 h2
 ·exact obj1_C R s k r V PR PD PM M d p0 W0 hl hR0 hT hG hVal a q o W hq h h1 e p h2 h3
 ·exact obj1_D R s k r V PR PD PM M d p0 W0 hl hR0 hT hG hVal a q o W hq h h1 nm q1 h2 hm h3
 ·exact obj1_E R s k r V PR PD PM M d p0 W0 hl hR0 hT hG hVal a q o W hq h h1 nm q1 h2 hm h4 h3
 ·exact obj1_F R s k r V PR PD PM M d p0 W0 hl hR0 hT hG hVal a q o W hq h h1 nm q1 h2 hm c h4 h58 h3
 ·exact obj1_G R s k r V PR PD PM M d p0 W0 hl hR0 hT hG hVal a q o W hq h h1 nm q1 h2 hm h4 e p h5 h3
 ·refine obj1_H R s k r V PR PD PM M d p0 W0 hl hR0 hT hG hVal a q o W hq h h1 nm q1 h2 hm h4 x q2 h5 (valueF_val _ _ _ _ _ _ ?_ h5).1 h3
  have := (List.getElem?_eq_some_iff.1 h4).1
  exact blanks_le _ _ (by omega)
end Go.Proofs.YtaalajhmfdcalaaDoor.X
namespace Go.Proofs.YtaalajhmfdcalaaDoor.X
open Go.RowKit Go.Lib Go.Proofs.YtaalajhmfdcalaaDoorW.PrintWords Go.Proofs.YtaalajhmfdcalaaDoorW.PrintLast Go.Proofs.YtaalajhmfdcalaaDoorW.PrintMore
abbrev oV : Obj := Obj.cells #[.int .i64 6, .string ⟨#[]⟩, .slice none 0 0, .slice none 0 0] 25
abbrev oW (W0 : World) (n : Nat) : World := ((W0.alloc oV).alloc (.map #[] 0)).alloc (Obj.cells #[.map (some n)] 97)
def objEnd (R : Nat) (s : ByteArray) (W : World) (o : Out (List ByteArray × List J)) (x : Ending) (W' : World) : Prop :=
 On R W W' ∧ match o with
  | .val a q => x = .returned (.tuple #[]) ∧ RdB R s q W' ∧ ∃ sn sv, W'.heap[W.heap.size + 1 + 1 + 1]? = some (.cells #[.int .i64 6, .string ⟨#[]⟩, sn, sv] 25 (0, 0)) ∧ Kd.string.R 9 W' W.heap.size (fun k => k ≠ W.heap.size + 1 + 1) sn a.1 ∧ k25.R 25 W' W.heap.size (fun k => some k ≠ sn.ownBlock ∧ k ≠ W.heap.size + 1 + 1) sv a.2 ∧
    W'.heap[W.heap.size + 1 + 1]? = some (.cells #[.int .i64 0, .string ⟨#[]⟩, .slice none 0 0, .slice none 0 0] 25 (0, 0))
  | .err e q => x = pan e q
theorem OI_hI {R V PR PD PM M : Nat} {d : Int} {W0 : World} (g : OGeo R W0.heap.size V PR PD PM M) : ∀ a q q' W W', q ≤ q' → OI R W0.heap.size V PR PD PM M d a q W → On R W W' → OI R W0.heap.size V PR PD PM M d a q' W' :=
 fun _ _ _ _ _ hq h hO => OI.on hq h g hO
theorem obj_sev (R : Nat) (s : ByteArray) (k r : Nat) (d : Int) (p : Nat) (W : World) (hl : s.size ≤ 10000000000) (h : RdB R s p W) (hT : Tabs W) (hp : p < s.size) (hVal : ValOK R s k r (wrap64 (d + 1)))
  (o : Out (List ByteArray × List J)) (hF : sevF (oneM (valueF s.data.toList k r) s.data.toList k) s.data.toList 125 k ([], []) p = some o) :
  Calls Tryd.prog 67 #[ptr R, .int .u8 125, .func (.func 69) #[] #[.pointer (some ⟨W.heap.size, 0, none⟩), .pointer (some ⟨W.heap.size + 1 + 1 + 1 + 1 + 1, 0, none⟩), .pointer (some ⟨W.heap.size + 1 + 1 + 1, 0, none⟩), .pointer (some ⟨W.heap.size + 1, 0, none⟩)]]
   (oW (lW0 R d W) (W.heap.size + 1 + 1 + 1 + 1)) (objEnd R s W o) := by
 have hR := h.lt
 have hb0 := lW0_below R d W
 have hs0 := lW0_size R d W
 obtain ⟨b1, b2, b3⟩ := lW0_boxes R d W
 have hO0 : On R W (lW0 R d W) := On.of_below (Nat.le_of_lt hR) hb0
 have hR0 : RdB R s p (lW0 R d W) := h.below hb0
 have hT0 : Tabs (lW0 R d W) := hT.on h hO0
 generalize hW0 : lW0 R d W = W0 at *
 have hb1 : Below W0.heap.size W0 (oW W0 (W.heap.size + 1 + 1 + 1 + 1)) := below_alloc (below_alloc (below_alloc (Below.refl _ _) _) _) _
 have hO1 : On R W0 (oW W0 (W.heap.size + 1 + 1 + 1 + 1)) := On.of_below (by omega) hb1
 have hV := heap_alloc_new W0 oV
 have e1 : (W0.alloc oV).heap.size = W.heap.size + 1 + 1 + 1 + 1 := by simp [hs0]
 have e2 : ((W0.alloc oV).alloc (.map #[] 0)).heap.size = W.heap.size + 1 + 1 + 1 + 1 + 1 := by simp [hs0]
 have hM := Seen.made (W0.alloc oV)
 have hPM := heap_alloc_new ((W0.alloc oV).alloc (.map #[] 0)) (Obj.cells #[.map (some (W.heap.size + 1 + 1 + 1 + 1))] 97)
 rw [hs0] at hV
 rw [e1] at hM
 rw [e2] at hPM
 have hMlt := hM.lt
 have hG : OGeo R W0.heap.size (W.heap.size + 1 + 1 + 1) W.heap.size (W.heap.size + 1) (W.heap.size + 1 + 1 + 1 + 1 + 1) (W.heap.size + 1 + 1 + 1 + 1) := ⟨by omega, by omega, by omega, by omega, by omega, by omega⟩
 have key := sevObj_calls R s 125 (oneM (valueF s.data.toList k r) s.data.toList k) (OI R W0.heap.size (W.heap.size + 1 + 1 + 1) W.heap.size (W.heap.size + 1) (W.heap.size + 1 + 1 + 1 + 1 + 1) (W.heap.size + 1 + 1 + 1 + 1) d) W0 (.pointer (some ⟨W.heap.size, 0, none⟩)) (.pointer (some ⟨W.heap.size + 1 + 1 + 1 + 1 + 1, 0, none⟩)) (.pointer (some ⟨W.heap.size + 1 + 1 + 1, 0, none⟩)) (.pointer (some ⟨W.heap.size + 1, 0, none⟩)) hl
  (OI_hI hG)
  (fun a q a' q' hq h1 => by
   have := oneM_val s.data.toList k _ (fun q j q' hq hv => valueF_val _ _ _ _ _ _ hq hv) a q a' q' (by rw [size_data]; exact hq) h1
   rw [size_data] at this
   exact this.2)
  (fun a q o W hq h1 h2 => obj1_calls R s k r _ _ _ _ _ d p W0 hl hR0 hT0 hG hVal a q o W hq h1 h2)
  k ([], []) p o hp _ ⟨hR0.below hb1, hO1, Nat.zero_le _, Nat.zero_le _, _, _, ⟨Below.alloc_at (Below.alloc_at hV), Below.alloc_at (Below.alloc_at (Below.alloc_at b1)), Below.alloc_at (Below.alloc_at (Below.alloc_at b2)), hPM, hM.move ((below_alloc (Below.refl _ _) _).block _ hMlt), Kd.R_nil _ _ _ _ _, Kd.R_nil _ _ _ _ _⟩⟩ hF
 refine key.mono fun x W' hh => ?_
 cases o with
 | val a q =>
  obtain ⟨hx, h1, h2, _, _, sn, sv, h3⟩ := hh
  refine ⟨hO0.trans h2, hx, h1, sn, sv, h3.v, Kd.R_lower (Kd.R_mono (Kd.R_bound h3.names) (fun k hk => by have := hk.2.1; omega)) (by omega), Kd.R_lower (Kd.R_mono (Kd.R_bound h3.items) (fun k hk => ⟨hk.1.2, by have := hk.2.1; omega⟩)) (by omega), blk_on b3 (by omega) h2⟩
 | err e q => exact ⟨hO0.trans hh.2, hh.1⟩
set_option maxRecDepth 1000000 in
set_option maxHeartbeats 4000000 in
theorem object_calls (R : Nat) (s : ByteArray) (k r : Nat) (d : Int) (p : Nat) (W : World) (hl : s.size ≤ 10000000000) (h : RdB R s p W) (hT : Tabs W) (hp : p < s.size) (hVal : ValOK R s k r (wrap64 (d + 1)))
  (o : Out (List ByteArray × List J)) (hF : sevF (oneM (valueF s.data.toList k r) s.data.toList k) s.data.toList 125 k ([], []) p = some o) :
  Calls Tryd.prog 44 #[ptr R, .int .i64 d] W (Ends R s W (o.map fun a => (⟨6, bsJ [], a.1, a.2⟩ : J)) (jV W.heap.size)) := by
 have key := am (obj_sev R s k r d p W hl h hT hp hVal o hF)
 have hRW := h.lt
 have hmm := @run_makeMap Tryd.prog
 clear hT hF hVal h
 cases o with
 | err e q =>
  go_enter Tryd.func44, Tryd.ntmps44
  go_wp2_with (go_at_call 67; (with_reducible refine (key.out).mono ?_); rintro e w1 ⟨ho, rfl⟩; have HO := am ho; clear ho)
  exact ⟨rfl, Ends.no rfl HO.out⟩
 | val a q =>
  go_enter Tryd.func44, Tryd.ntmps44
  go_wp2_with (go_at_call 67; (with_reducible refine (key.out).mono ?_); rintro e w1 ⟨ho, rfl, hr, sn, sv, hv, hn, hi, hb⟩; have HO := am ho; have HR := am hr; have HI := am hi; have HB := am hb; have HV := am hv; obtain ⟨A, c, e3⟩ := Kd.R_slice hi; subst e3; obtain ⟨A2, c2, e2⟩ := Kd.R_slice hn; subst e2; have HN := am hn; have v0 : w1.cell? ⟨W.heap.size + 1 + 1 + 1, 0, none⟩ = some (.int .i64 6) := (blk_cell hv 0).trans rfl; have v1 : w1.cell? ⟨W.heap.size + 1 + 1 + 1, 1, none⟩ = some (.string ⟨#[]⟩) := (blk_cell hv 1).trans rfl; have v2 : w1.cell? ⟨W.heap.size + 1 + 1 + 1, 2, none⟩ = some (.slice A2 a.1.length c2) := (blk_cell hv 2).trans rfl; have v3 : w1.cell? ⟨W.heap.size + 1 + 1 + 1, 3, none⟩ = some (.slice A a.2.length c) := (blk_cell hv 3).trans rfl; have r0 : w1.cell? ⟨W.heap.size + 1 + 1, 0, none⟩ = some (.int .i64 0) := (blk_cell hb 0).trans rfl; have r1 : w1.cell? ⟨W.heap.size + 1 + 1, 1, none⟩ = some (.string ⟨#[]⟩) := (blk_cell hb 1).trans rfl; have r2 : w1.cell? ⟨W.heap.size + 1 + 1, 2, none⟩ = some (.slice none 0 0) := (blk_cell hb 2).trans rfl; have r3 : w1.cell? ⟨W.heap.size + 1 + 1, 3, none⟩ = some (.slice none 0 0) := (blk_cell hb 3).trans rfl; have f0 := blk_free hb 0; have f1 := blk_free hb 1; have f2 := blk_free hb 2; have f3 := blk_free hb 3; clear ho hr hv hi hb hn)
  refine bodyPost_ret (results_cell_row rfl _ _ (W.heap.size + 1 + 1) 25 #[.int .i64 6, .string ⟨#[]⟩, .slice A2 a.1.length c2, .slice A a.2.length c] (0, 0) _ rfl (blk4 HB.out _ _ _ _) Tryd.underlying25 rfl (by kernel_rfl)) rfl ?_
  have hR1 := set4_ends (b := W.heap.size + 1 + 1) HR.out HO.out hRW (by omega) (.int .i64 6) (.string ⟨#[]⟩) (.slice A2 a.1.length c2) (.slice A a.2.length c)
  refine Ends.ok rfl ⟨.slice A2 a.1.length c2, .slice A a.2.length c, rfl, ?_, ?_⟩ hR1.1 hR1.2
  ·exact Kd.R_mono (Kd.R_far (p := ⟨W.heap.size + 1 + 1, 3, none⟩) (Kd.R_far (p := ⟨W.heap.size + 1 + 1, 2, none⟩) (Kd.R_far (p := ⟨W.heap.size + 1 + 1, 1, none⟩) (Kd.R_far (p := ⟨W.heap.size + 1 + 1, 0, none⟩) HN.out (fun _ hk => hk) _) (fun _ hk => hk) _) (fun _ hk => hk) _) (fun _ hk => hk) _) (fun _ _ => trivial)
  ·exact Kd.R_mono (Kd.R_far (p := ⟨W.heap.size + 1 + 1, 3, none⟩) (Kd.R_far (p := ⟨W.heap.size + 1 + 1, 2, none⟩) (Kd.R_far (p := ⟨W.heap.size + 1 + 1, 1, none⟩) (Kd.R_far (p := ⟨W.heap.size + 1 + 1, 0, none⟩) HI.out (fun _ hk => hk.2) _) (fun _ hk => hk.2) _) (fun _ hk => hk.2) _) (fun _ hk => hk.2) _) (fun _ hk => hk.1)
theorem Kd.R_far4 {α : Type} {dd : Kd α} {e B b : Nat} {w : World} {ok : Nat → Prop} {v : Value} {l : List α} (h : dd.R e w B ok v l) (hb : ∀ k, ok k → k ≠ b) (c0 c1 c2 c3 : Value) :
  dd.R e ((((w.setCell ⟨b, 0, none⟩ c0).setCell ⟨b, 1, none⟩ c1).setCell ⟨b, 2, none⟩ c2).setCell ⟨b, 3, none⟩ c3) B ok v l :=
 Kd.R_far (Kd.R_far (Kd.R_far (Kd.R_far h (p := ⟨b, 0, none⟩) hb _) (p := ⟨b, 1, none⟩) hb _) (p := ⟨b, 2, none⟩) hb _) (p := ⟨b, 3, none⟩) hb _
theorem value_end {R : Nat} {s : ByteArray} {q : Nat} {W w1 : World} {o : Out J} {j : J} {v2 v3 : Value} (ho : o = .val j q) (hR : RdB R s q w1) (hO : On R (W.alloc zJ) w1) (hRW : R < W.heap.size)
  (g2 : Kd.string.R 9 w1 (W.heap.size + 1) (fun _ => True) v2 j.f2) (g3 : k25.R 25 w1 (W.heap.size + 1) (fun k => some k ≠ v2.ownBlock) v3 j.f3) :
  Ends R s W o (jV W.heap.size) (.returned (.agg #[.int .i64 j.f0, .string j.f1, v2, v3])) ((((w1.setCell ⟨W.heap.size, 0, none⟩ (.int .i64 j.f0)).setCell ⟨W.heap.size, 1, none⟩ (.string j.f1)).setCell ⟨W.heap.size, 2, none⟩ v2).setCell ⟨W.heap.size, 3, none⟩ v3) := by
 have hO1 : On R W w1 := (On.of_below (Nat.le_of_lt hRW) (below_alloc (Below.refl _ _) _)).trans hO
 have h1 := set4_ends (b := W.heap.size) hR hO1 hRW (Nat.le_refl _) (.int .i64 j.f0) (.string j.f1) v2 v3
 refine Ends.ok ho ⟨v2, v3, rfl, ?_, ?_⟩ h1.1 h1.2
 ·exact Kd.R_mono (Kd.R_far4 (Kd.R_lower (Kd.R_bound g2) (Nat.le_succ _)) (b := W.heap.size) (fun k hk => by have := hk.2.1; omega) _ _ _ _) (fun _ _ => trivial)
 ·exact Kd.R_mono (Kd.R_far4 (Kd.R_lower (Kd.R_bound g3) (Nat.le_succ _)) (b := W.heap.size) (fun k hk => by have := hk.2.1; omega) _ _ _ _) (fun _ hk => hk.1)
theorem below_base {α : Type} {dd : Kd α} {e R n : Nat} {W1 W2 w : World} {ok : Nat → Prop} {v : Value} {l : List α} (hs : W1.heap.size = n) (hO : On R W1 W2) (h : dd.R e w W2.heap.size ok v l) : dd.R e w n ok v l :=
 Kd.R_lower h (by have := hO.size; omega)
set_option maxRecDepth 1000000 in
set_option maxHeartbeats 8000000 in
theorem value_step (R : Nat) (s : ByteArray) (k r : Nat) (hl : s.size ≤ 10000000000) (hr : r ≤ 32) (IH : ∀ r', r' + 1 = r → ValOK R s k r' (32 - (r' : Int))) : ValOK R s k r (32 - (r : Int)) := by
 intro p o W hp hF h hT
 have HR1 := am (show RdB R s p (W.alloc zJ) from h.below (below_alloc (Below.refl _ _) _))
 have HRW := am h.lt
 have hRB : W.heap.size ≠ R := by have := h.lt; omega
 have HB := am (heap_alloc_new W zJ)
 have HT := am (fun (w : World) (ho : On R (W.alloc zJ) w) => hT.on h ((On.of_below (Nat.le_of_lt h.lt) (below_alloc (Below.refl _ _) _)).trans ho))
 have HOW := am (show On R W (W.alloc zJ) from On.of_below (Nat.le_of_lt h.lt) (below_alloc (Below.refl _ _) _))
 have esz : (W.alloc zJ).heap.size = W.heap.size + 1 := by simp
 clear h hT
 unfold valueF at hF
 cases hc : s.data.toList[p]? with
 | none =>
  rw [hc] at hF
  have hps : s.size ≤ p := by rw [List.getElem?_eq_none_iff, size_data] at hc; exact hc
  have HX := am (show o = .err 3 s.size by injection hF with hF; rw [← hF, size_data])
  clear hc hF
  go_enter Tryd.func28, Tryd.ntmps28
  go_wp2_with (go_at_call 39; (with_reducible refine (peek_short R s p hps _ ?rd).mono ?_); (case rd => exact HR1.out); rintro e w1 ⟨rfl, hb⟩; have HB := am hb; clear hb)
  exact ⟨rfl, Ends.no HX.out (HOW.out.drawn HB.out)⟩
 | some c =>
  rw [hc] at hF
  simp only at hF
  have HC := am hc
  have hlt := at_lt' hc
  have hu := c.toNat_lt
  clear hc
  by_cases h110 : c = 110
  ·rw [if_pos h110] at hF
   have e110 : ((c.toNat : Int) == 110) = true := (beq_u8 c 110 (by omega)).trans (decide_eq_true h110)
   clear h110
   cases hs : wordF s.data.toList [110, 117, 108, 108] p with
   | err e q =>
    have HX := am (show o = .err e q by rw [hs] at hF; injection hF with hF; exact hF.symm)
    have HS := am (show wordF s.data.toList (ByteArray.data ⟨#[110, 117, 108, 108]⟩).toList p = .err e q from hs)
    clear hs hF
    go_enter Tryd.func28, Tryd.ntmps28
    go_wp2_with (first | (go_at_call 39; (with_reducible refine (peek_ok R s p c HC.out _ ?rd1x1).mono ?_); (case rd1x1 => exact HR1.out); rintro e w1 ⟨rfl, hb⟩; have HR2 := am (HR1.out.drawn hb); have HN2 := am ((On.refl R (W.alloc zJ)).drawn hb); have d2 := HR2.out.c1; clear hb) | (go_at_call 40; (with_reducible refine (Calls.err_of (word_calls R s ⟨#[110, 117, 108, 108]⟩ p (by have hz : ByteArray.size ⟨#[110, 117, 108, 108]⟩ = 4 := rfl; rw [hz]; omega) (by omega) _ ?rdy2) HS.out).mono ?_); (case rdy2 => exact HR2.out); rintro e w3 ⟨rfl, ho⟩; have HN3 := am (HN2.out.trans ho); clear ho))
    exact ⟨rfl, Ends.no HX.out (HOW.out.trans HN3.out)⟩
   | val u q =>
    have HX := am (show o = .val (⟨0, bsJ [], [], []⟩ : J) q by rw [hs] at hF; injection hF with hF; exact hF.symm)
    have HS := am (show wordF s.data.toList (ByteArray.data ⟨#[110, 117, 108, 108]⟩).toList p = .val u q from hs)
    clear hs hF
    go_enter Tryd.func28, Tryd.ntmps28
    go_wp2_with (first | (go_at_call 39; (with_reducible refine (peek_ok R s p c HC.out _ ?rd1x3).mono ?_); (case rd1x3 => exact HR1.out); rintro e w1 ⟨rfl, hb⟩; have HR2 := am (HR1.out.drawn hb); have HN2 := am ((On.refl R (W.alloc zJ)).drawn hb); have d2 := HR2.out.c1; clear hb) | (go_at_call 40; (with_reducible refine (Calls.val_of (word_calls R s ⟨#[110, 117, 108, 108]⟩ p (by have hz : ByteArray.size ⟨#[110, 117, 108, 108]⟩ = 4 := rfl; rw [hz]; omega) (by omega) _ ?rdy4) HS.out).mono ?_); (case rdy4 => exact HR2.out); rintro e w3 ⟨v, rfl, hv, hr, ho⟩; have HR3 := am hr; have HN3 := am (HN2.out.trans ho); have hv : v = .tuple #[] := hv; subst hv; have HB3 := am (blk_on HB.out hRB (HN2.out.trans ho)); have b0 := (blk_cell HB3.out 0); have b1 := (blk_cell HB3.out 1); have b2 := (blk_cell HB3.out 2); have b3 := (blk_cell HB3.out 3); have g0 := blk_free HB3.out 0; have g1 := blk_free HB3.out 1; have g2 := blk_free HB3.out 2; have g3 := blk_free HB3.out 3; dsimp at b0 b1 b2 b3; clear hr ho))
    refine bodyPost_ret (results_cell_row rfl _ _ W.heap.size 25 #[.int .i64 0, .string ⟨#[]⟩, .slice none 0 0, .slice none 0 0] (0, 0) _ rfl (blk4 HB3.out _ _ _ _) Tryd.underlying25 rfl (by kernel_rfl)) rfl ?_
    exact value_end (j := ⟨0, bsJ [], [], []⟩) HX.out HR3.out HN3.out HRW.out (Kd.R_nil _ _ _ _ _) (Kd.R_nil _ _ _ _ _)
  rw [if_neg h110] at hF
  have e110 : ((c.toNat : Int) == 110) = false := (beq_u8 c 110 (by omega)).trans (decide_eq_false h110)
  clear h110
  by_cases h116 : c = 116
  ·rw [if_pos h116] at hF
   have e116 : ((c.toNat : Int) == 116) = true := (beq_u8 c 116 (by omega)).trans (decide_eq_true h116)
   clear h116
   cases hs : wordF s.data.toList [116, 114, 117, 101] p with
   | err e q =>
    have HX := am (show o = .err e q by rw [hs] at hF; injection hF with hF; exact hF.symm)
    have HS := am (show wordF s.data.toList (ByteArray.data ⟨#[116, 114, 117, 101]⟩).toList p = .err e q from hs)
    clear hs hF
    go_enter Tryd.func28, Tryd.ntmps28
    go_wp2_with (first | (go_at_call 39; (with_reducible refine (peek_ok R s p c HC.out _ ?rd1x5).mono ?_); (case rd1x5 => exact HR1.out); rintro e w1 ⟨rfl, hb⟩; have HR2 := am (HR1.out.drawn hb); have HN2 := am ((On.refl R (W.alloc zJ)).drawn hb); have d2 := HR2.out.c1; clear hb) | (go_at_call 40; (with_reducible refine (Calls.err_of (word_calls R s ⟨#[116, 114, 117, 101]⟩ p (by have hz : ByteArray.size ⟨#[116, 114, 117, 101]⟩ = 4 := rfl; rw [hz]; omega) (by omega) _ ?rdy6) HS.out).mono ?_); (case rdy6 => exact HR2.out); rintro e w3 ⟨rfl, ho⟩; have HN3 := am (HN2.out.trans ho); clear ho))
    exact ⟨rfl, Ends.no HX.out (HOW.out.trans HN3.out)⟩
   | val u q =>
    have HX := am (show o = .val (⟨2, bsJ [], [], []⟩ : J) q by rw [hs] at hF; injection hF with hF; exact hF.symm)
    have HS := am (show wordF s.data.toList (ByteArray.data ⟨#[116, 114, 117, 101]⟩).toList p = .val u q from hs)
    clear hs hF
    go_enter Tryd.func28, Tryd.ntmps28
    go_wp2_with (first | (go_at_call 39; (with_reducible refine (peek_ok R s p c HC.out _ ?rd1x7).mono ?_); (case rd1x7 => exact HR1.out); rintro e w1 ⟨rfl, hb⟩; have HR2 := am (HR1.out.drawn hb); have HN2 := am ((On.refl R (W.alloc zJ)).drawn hb); have d2 := HR2.out.c1; clear hb) | (go_at_call 40; (with_reducible refine (Calls.val_of (word_calls R s ⟨#[116, 114, 117, 101]⟩ p (by have hz : ByteArray.size ⟨#[116, 114, 117, 101]⟩ = 4 := rfl; rw [hz]; omega) (by omega) _ ?rdy8) HS.out).mono ?_); (case rdy8 => exact HR2.out); rintro e w3 ⟨v, rfl, hv, hr, ho⟩; have HR3 := am hr; have HN3 := am (HN2.out.trans ho); have hv : v = .tuple #[] := hv; subst hv; have HB3 := am (blk_on HB.out hRB (HN2.out.trans ho)); have b0 := (blk_cell HB3.out 0); have b1 := (blk_cell HB3.out 1); have b2 := (blk_cell HB3.out 2); have b3 := (blk_cell HB3.out 3); have g0 := blk_free HB3.out 0; have g1 := blk_free HB3.out 1; have g2 := blk_free HB3.out 2; have g3 := blk_free HB3.out 3; dsimp at b0 b1 b2 b3; clear hr ho))
    refine bodyPost_ret (results_cell_row rfl _ _ W.heap.size 25 #[.int .i64 2, .string ⟨#[]⟩, .slice none 0 0, .slice none 0 0] (0, 0) _ rfl (blk4 HB3.out _ _ _ _) Tryd.underlying25 rfl (by kernel_rfl)) rfl ?_
    exact value_end (j := ⟨2, bsJ [], [], []⟩) HX.out HR3.out HN3.out HRW.out (Kd.R_nil _ _ _ _ _) (Kd.R_nil _ _ _ _ _)
  rw [if_neg h116] at hF
  have e116 : ((c.toNat : Int) == 116) = false := (beq_u8 c 116 (by omega)).trans (decide_eq_false h116)
  clear h116
  by_cases h102 : c = 102
  ·rw [if_pos h102] at hF
   have e102 : ((c.toNat : Int) == 102) = true := (beq_u8 c 102 (by omega)).trans (decide_eq_true h102)
   clear h102
   cases hs : wordF s.data.toList [102, 97, 108, 115, 101] p with
   | err e q =>
    have HX := am (show o = .err e q by rw [hs] at hF; injection hF with hF; exact hF.symm)
    have HS := am (show wordF s.data.toList (ByteArray.data ⟨#[102, 97, 108, 115, 101]⟩).toList p = .err e q from hs)
    clear hs hF
    go_enter Tryd.func28, Tryd.ntmps28
    go_wp2_with (first | (go_at_call 39; (with_reducible refine (peek_ok R s p c HC.out _ ?rd1x9).mono ?_); (case rd1x9 => exact HR1.out); rintro e w1 ⟨rfl, hb⟩; have HR2 := am (HR1.out.drawn hb); have HN2 := am ((On.refl R (W.alloc zJ)).drawn hb); have d2 := HR2.out.c1; clear hb) | (go_at_call 40; (with_reducible refine (Calls.err_of (word_calls R s ⟨#[102, 97, 108, 115, 101]⟩ p (by have hz : ByteArray.size ⟨#[102, 97, 108, 115, 101]⟩ = 5 := rfl; rw [hz]; omega) (by omega) _ ?rdy10) HS.out).mono ?_); (case rdy10 => exact HR2.out); rintro e w3 ⟨rfl, ho⟩; have HN3 := am (HN2.out.trans ho); clear ho))
    exact ⟨rfl, Ends.no HX.out (HOW.out.trans HN3.out)⟩
   | val u q =>
    have HX := am (show o = .val (⟨1, bsJ [], [], []⟩ : J) q by rw [hs] at hF; injection hF with hF; exact hF.symm)
    have HS := am (show wordF s.data.toList (ByteArray.data ⟨#[102, 97, 108, 115, 101]⟩).toList p = .val u q from hs)
    clear hs hF
    go_enter Tryd.func28, Tryd.ntmps28
    go_wp2_with (first | (go_at_call 39; (with_reducible refine (peek_ok R s p c HC.out _ ?rd1x11).mono ?_); (case rd1x11 => exact HR1.out); rintro e w1 ⟨rfl, hb⟩; have HR2 := am (HR1.out.drawn hb); have HN2 := am ((On.refl R (W.alloc zJ)).drawn hb); have d2 := HR2.out.c1; clear hb) | (go_at_call 40; (with_reducible refine (Calls.val_of (word_calls R s ⟨#[102, 97, 108, 115, 101]⟩ p (by have hz : ByteArray.size ⟨#[102, 97, 108, 115, 101]⟩ = 5 := rfl; rw [hz]; omega) (by omega) _ ?rdy12) HS.out).mono ?_); (case rdy12 => exact HR2.out); rintro e w3 ⟨v, rfl, hv, hr, ho⟩; have HR3 := am hr; have HN3 := am (HN2.out.trans ho); have hv : v = .tuple #[] := hv; subst hv; have HB3 := am (blk_on HB.out hRB (HN2.out.trans ho)); have b0 := (blk_cell HB3.out 0); have b1 := (blk_cell HB3.out 1); have b2 := (blk_cell HB3.out 2); have b3 := (blk_cell HB3.out 3); have g0 := blk_free HB3.out 0; have g1 := blk_free HB3.out 1; have g2 := blk_free HB3.out 2; have g3 := blk_free HB3.out 3; dsimp at b0 b1 b2 b3; clear hr ho))
    refine bodyPost_ret (results_cell_row rfl _ _ W.heap.size 25 #[.int .i64 1, .string ⟨#[]⟩, .slice none 0 0, .slice none 0 0] (0, 0) _ rfl (blk4 HB3.out _ _ _ _) Tryd.underlying25 rfl (by kernel_rfl)) rfl ?_
    exact value_end (j := ⟨1, bsJ [], [], []⟩) HX.out HR3.out HN3.out HRW.out (Kd.R_nil _ _ _ _ _) (Kd.R_nil _ _ _ _ _)
  rw [if_neg h102] at hF
  have e102 : ((c.toNat : Int) == 102) = false := (beq_u8 c 102 (by omega)).trans (decide_eq_false h102)
  clear h102
  by_cases hnum : c = 45 ∨ isDg c = true
  ·rw [if_pos hnum] at hF
   by_cases h45 : c = 45
   ·have e45 : ((c.toNat : Int) == 45) = true := (beq_u8 c 45 (by omega)).trans (decide_eq_true h45)
    clear h45 hnum
    cases hs : numberF s.data.toList p with
    | err e q =>
     have HX := am (show o = .err e q by rw [hs] at hF; injection hF with hF; exact hF.symm)
     have HS := am hs
     clear hs hF
     go_enter Tryd.func28, Tryd.ntmps28
     go_wp2_with (first | (go_at_call 39; (with_reducible refine (peek_ok R s p c HC.out _ ?rd1x13).mono ?_); (case rd1x13 => exact HR1.out); rintro e w1 ⟨rfl, hb⟩; have HR2 := am (HR1.out.drawn hb); have HN2 := am ((On.refl R (W.alloc zJ)).drawn hb); have d2 := HR2.out.c1; clear hb) | (go_at_call 41; (with_reducible refine (Calls.err_of (number_calls R s p (by omega) (by omega) _ ?rdy14) HS.out).mono ?_); (case rdy14 => exact HR2.out); rintro e w3 ⟨rfl, ho⟩; have HN3 := am (HN2.out.trans ho); clear ho))
     exact ⟨rfl, Ends.no HX.out (HOW.out.trans HN3.out)⟩
    | val u q =>
     have HX := am (show o = .val (⟨3, bsJ u, [], []⟩ : J) q by rw [hs] at hF; injection hF with hF; exact hF.symm)
     have HS := am hs
     clear hs hF
     go_enter Tryd.func28, Tryd.ntmps28
     go_wp2_with (first | (go_at_call 39; (with_reducible refine (peek_ok R s p c HC.out _ ?rd1x15).mono ?_); (case rd1x15 => exact HR1.out); rintro e w1 ⟨rfl, hb⟩; have HR2 := am (HR1.out.drawn hb); have HN2 := am ((On.refl R (W.alloc zJ)).drawn hb); have d2 := HR2.out.c1; clear hb) | (go_at_call 41; (with_reducible refine (Calls.val_of (number_calls R s p (by omega) (by omega) _ ?rdy16) HS.out).mono ?_); (case rdy16 => exact HR2.out); rintro e w3 ⟨v, rfl, hv, hr, ho⟩; have HR3 := am hr; have HN3 := am (HN2.out.trans ho); have hv : v = .string (bs u) := hv; subst hv; have HB3 := am (blk_on HB.out hRB (HN2.out.trans ho)); have b0 := (blk_cell HB3.out 0); have b1 := (blk_cell HB3.out 1); have b2 := (blk_cell HB3.out 2); have b3 := (blk_cell HB3.out 3); have g0 := blk_free HB3.out 0; have g1 := blk_free HB3.out 1; have g2 := blk_free HB3.out 2; have g3 := blk_free HB3.out 3; dsimp at b0 b1 b2 b3; clear hr ho))
     refine bodyPost_ret (results_cell_row rfl _ _ W.heap.size 25 #[.int .i64 3, .string (bs u), .slice none 0 0, .slice none 0 0] (0, 0) _ rfl (blk4 HB3.out _ _ _ _) Tryd.underlying25 rfl (by kernel_rfl)) rfl ?_
     exact value_end (j := ⟨3, bsJ u, [], []⟩) HX.out HR3.out HN3.out HRW.out (Kd.R_nil _ _ _ _ _) (Kd.R_nil _ _ _ _ _)
   ·have e45 : ((c.toNat : Int) == 45) = false := (beq_u8 c 45 (by omega)).trans (decide_eq_false h45)
    have hdg : isDg c = true := hnum.resolve_left h45
    unfold isDg at hdg
    have hdg := of_decide_eq_true hdg
    have a1 : (48 : Int) ≤ (c.toNat : Int) := by omega
    have a2 : (c.toNat : Int) ≤ 57 := by omega
    clear h45 hnum hdg
    cases hs : numberF s.data.toList p with
    | err e q =>
     have HX := am (show o = .err e q by rw [hs] at hF; injection hF with hF; exact hF.symm)
     have HS := am hs
     clear hs hF
     go_enter Tryd.func28, Tryd.ntmps28
     go_wp2_with (first | (go_at_call 39; (with_reducible refine (peek_ok R s p c HC.out _ ?rd1x17).mono ?_); (case rd1x17 => exact HR1.out); rintro e w1 ⟨rfl, hb⟩; have HR2 := am (HR1.out.drawn hb); have HN2 := am ((On.refl R (W.alloc zJ)).drawn hb); have d2 := HR2.out.c1; clear hb) | (go_at_call 41; (with_reducible refine (Calls.err_of (number_calls R s p (by omega) (by omega) _ ?rdy18) HS.out).mono ?_); (case rdy18 => exact HR2.out); rintro e w3 ⟨rfl, ho⟩; have HN3 := am (HN2.out.trans ho); clear ho))
     exact ⟨rfl, Ends.no HX.out (HOW.out.trans HN3.out)⟩
    | val u q =>
     have HX := am (show o = .val (⟨3, bsJ u, [], []⟩ : J) q by rw [hs] at hF; injection hF with hF; exact hF.symm)
     have HS := am hs
     clear hs hF
     go_enter Tryd.func28, Tryd.ntmps28
     go_wp2_with (first | (go_at_call 39; (with_reducible refine (peek_ok R s p c HC.out _ ?rd1x19).mono ?_); (case rd1x19 => exact HR1.out); rintro e w1 ⟨rfl, hb⟩; have HR2 := am (HR1.out.drawn hb); have HN2 := am ((On.refl R (W.alloc zJ)).drawn hb); have d2 := HR2.out.c1; clear hb) | (go_at_call 41; (with_reducible refine (Calls.val_of (number_calls R s p (by omega) (by omega) _ ?rdy20) HS.out).mono ?_); (case rdy20 => exact HR2.out); rintro e w3 ⟨v, rfl, hv, hr, ho⟩; have HR3 := am hr; have HN3 := am (HN2.out.trans ho); have hv : v = .string (bs u) := hv; subst hv; have HB3 := am (blk_on HB.out hRB (HN2.out.trans ho)); have b0 := (blk_cell HB3.out 0); have b1 := (blk_cell HB3.out 1); have b2 := (blk_cell HB3.out 2); have b3 := (blk_cell HB3.out 3); have g0 := blk_free HB3.out 0; have g1 := blk_free HB3.out 1; have g2 := blk_free HB3.out 2; have g3 := blk_free HB3.out 3; dsimp at b0 b1 b2 b3; clear hr ho))
     refine bodyPost_ret (results_cell_row rfl _ _ W.heap.size 25 #[.int .i64 3, .string (bs u), .slice none 0 0, .slice none 0 0] (0, 0) _ rfl (blk4 HB3.out _ _ _ _) Tryd.underlying25 rfl (by kernel_rfl)) rfl ?_
     exact value_end (j := ⟨3, bsJ u, [], []⟩) HX.out HR3.out HN3.out HRW.out (Kd.R_nil _ _ _ _ _) (Kd.R_nil _ _ _ _ _)
  rw [if_neg hnum] at hF
  have e45 : ((c.toNat : Int) == 45) = false := (beq_u8 c 45 (by omega)).trans (decide_eq_false (fun h => hnum (.inl h)))
  have hdg : ¬ (48 ≤ c.toNat ∧ c.toNat ≤ 57) := fun h => hnum (.inr (by unfold isDg; exact decide_eq_true h))
  clear hnum
  by_cases hlo : 48 ≤ c.toNat
  ·have a1 : (48 : Int) ≤ (c.toNat : Int) := by omega
   have a3 : ¬ (c.toNat : Int) ≤ 57 := by omega
   have a4 : decide ((c.toNat : Int) ≤ 57) = false := decide_eq_false a3
   clear hlo hdg
   by_cases h34 : c = 34
   ·rw [if_pos h34] at hF
    have e34 : ((c.toNat : Int) == 34) = true := (beq_u8 c 34 (by omega)).trans (decide_eq_true h34)
    clear h34
    obtain ⟨o1, hs, ho⟩ := omap_some _ _ _ hF
    have HE := am hs
    have HS := am (rfl : o1 = o1)
    clear hs hF
    cases o1 with
    | err e q =>
     have HX := am (show o = .err e q from ho)
     clear ho
     go_enter Tryd.func28, Tryd.ntmps28
     go_wp2_with (first | (go_at_call 39; (with_reducible refine (peek_ok R s p c HC.out _ ?rd1x21).mono ?_); (case rd1x21 => exact HR1.out); rintro e w1 ⟨rfl, hb⟩; have HR2 := am (HR1.out.drawn hb); have HN2 := am ((On.refl R (W.alloc zJ)).drawn hb); have d2 := HR2.out.c1; clear hb) | (go_at_call 42; (with_reducible refine (Calls.err_of (text_calls R s p k _ hl hlt _ ?rdy22 ?tby22 HE.out) rfl).mono ?_); (case rdy22 => exact HR2.out); (case tby22 => exact HT.out _ HN2.out); rintro e w3 ⟨rfl, ho⟩; have HN3 := am (HN2.out.trans ho); clear ho))
     exact ⟨rfl, Ends.no HX.out (HOW.out.trans HN3.out)⟩
    | val u q =>
     have HX := am (show o = .val (⟨4, bsJ u, [], []⟩ : J) q from ho)
     clear ho
     go_enter Tryd.func28, Tryd.ntmps28
     go_wp2_with (first | (go_at_call 39; (with_reducible refine (peek_ok R s p c HC.out _ ?rd1x23).mono ?_); (case rd1x23 => exact HR1.out); rintro e w1 ⟨rfl, hb⟩; have HR2 := am (HR1.out.drawn hb); have HN2 := am ((On.refl R (W.alloc zJ)).drawn hb); have d2 := HR2.out.c1; clear hb) | (go_at_call 42; (with_reducible refine (Calls.val_of (text_calls R s p k _ hl hlt _ ?rdy24 ?tby24 HE.out) rfl).mono ?_); (case rdy24 => exact HR2.out); (case tby24 => exact HT.out _ HN2.out); rintro e w3 ⟨v, rfl, hv, hr, ho⟩; have HR3 := am hr; have HN3 := am (HN2.out.trans ho); have hv : v = .string (bs u) := hv; subst hv; have HB3 := am (blk_on HB.out hRB (HN2.out.trans ho)); have b0 := (blk_cell HB3.out 0); have b1 := (blk_cell HB3.out 1); have b2 := (blk_cell HB3.out 2); have b3 := (blk_cell HB3.out 3); have g0 := blk_free HB3.out 0; have g1 := blk_free HB3.out 1; have g2 := blk_free HB3.out 2; have g3 := blk_free HB3.out 3; dsimp at b0 b1 b2 b3; clear hr ho))
     refine bodyPost_ret (results_cell_row rfl _ _ W.heap.size 25 #[.int .i64 4, .string (bs u), .slice none 0 0, .slice none 0 0] (0, 0) _ rfl (blk4 HB3.out _ _ _ _) Tryd.underlying25 rfl (by kernel_rfl)) rfl ?_
     exact value_end (j := ⟨4, bsJ u, [], []⟩) HX.out HR3.out HN3.out HRW.out (Kd.R_nil _ _ _ _ _) (Kd.R_nil _ _ _ _ _)
   rw [if_neg h34] at hF
   have e34 : ((c.toNat : Int) == 34) = false := (beq_u8 c 34 (by omega)).trans (decide_eq_false h34)
   clear h34
   by_cases hbr : c = 91 ∨ c = 123
   ·rw [if_pos hbr] at hF
    cases r with
    | zero =>
     have HX := am (show o = .err 46 p by injection hF with hF; exact hF.symm)
     clear hF
     have hd : ((32 : Int) ≤ 32 - ((0 : Nat) : Int)) := by omega
     by_cases h91 : c = 91
     ·have e91 : ((c.toNat : Int) == 91) = true := (beq_u8 c 91 (by omega)).trans (decide_eq_true h91)
      clear h91 hbr
      go_enter Tryd.func28, Tryd.ntmps28
      go_wp2_with (first | (go_at_call 39; (with_reducible refine (peek_ok R s p c HC.out _ ?rd1x25).mono ?_); (case rd1x25 => exact HR1.out); rintro e w1 ⟨rfl, hb⟩; have HR2 := am (HR1.out.drawn hb); have HN2 := am ((On.refl R (W.alloc zJ)).drawn hb); have d2 := HR2.out.c1; clear hb) | (go_at_call 29; (with_reducible refine (fail_calls _ _ _ _).mono ?_); rintro e w9 ⟨rfl, hb⟩; have HB9 := am hb; clear hb))
      exact ⟨rfl, Ends.no HX.out (HOW.out.trans (HN2.out.drawn HB9.out))⟩
     ·have e91 : ((c.toNat : Int) == 91) = false := (beq_u8 c 91 (by omega)).trans (decide_eq_false h91)
      have e123 : ((c.toNat : Int) == 123) = true := (beq_u8 c 123 (by omega)).trans (decide_eq_true (hbr.resolve_left h91))
      clear h91 hbr
      go_enter Tryd.func28, Tryd.ntmps28
      go_wp2_with (first | (go_at_call 39; (with_reducible refine (peek_ok R s p c HC.out _ ?rd1x26).mono ?_); (case rd1x26 => exact HR1.out); rintro e w1 ⟨rfl, hb⟩; have HR2 := am (HR1.out.drawn hb); have HN2 := am ((On.refl R (W.alloc zJ)).drawn hb); have d2 := HR2.out.c1; clear hb) | (go_at_call 29; (with_reducible refine (fail_calls _ _ _ _).mono ?_); rintro e w9 ⟨rfl, hb⟩; have HB9 := am hb; clear hb))
      exact ⟨rfl, Ends.no HX.out (HOW.out.trans (HN2.out.drawn HB9.out))⟩
    | succ r' =>
     simp only at hF
     have hd : ¬ ((32 : Int) ≤ 32 - ((r' + 1 : Nat) : Int)) := by omega
     have hd2 : decide ((32 : Int) ≤ 32 - ((r' + 1 : Nat) : Int)) = false := decide_eq_false hd
     have HI := am (show ValOK R s k r' (wrap64 (32 - ((r' + 1 : Nat) : Int) + 1)) by rw [Go.Proofs.YtaalajhmfdcalaaDoor.X.wr _ (by omega), show (32 - ((r' + 1 : Nat) : Int) + 1) = 32 - (r' : Int) by omega]; exact IH r' rfl)
     have HSZ := am esz
     generalize hdd : 32 - ((r' + 1 : Nat) : Int) = d at *
     clear hdd
     by_cases h91 : c = 91
     ·rw [if_pos h91] at hF
      have e91 : ((c.toNat : Int) == 91) = true := (beq_u8 c 91 (by omega)).trans (decide_eq_true h91)
      clear h91 hbr
      obtain ⟨o1, hs, ho⟩ := omap_some _ _ _ hF
      have HE := am hs
      clear hs hF
      cases o1 with
      | err e q =>
       have HX := am (show o = .err e q from ho)
       clear ho
       go_enter Tryd.func28, Tryd.ntmps28
       go_wp2_with (first | (go_at_call 39; (with_reducible refine (peek_ok R s p c HC.out _ ?rd1x27).mono ?_); (case rd1x27 => exact HR1.out); rintro e w1 ⟨rfl, hb⟩; have HR2 := am (HR1.out.drawn hb); have HN2 := am ((On.refl R (W.alloc zJ)).drawn hb); have d2 := HR2.out.c1; clear hb) | (go_at_call 43; (with_reducible refine (Calls.err_of (list_calls R s k r' d p _ hl ?rdy28 ?tby28 hlt (HI.out) _ HE.out) rfl).mono ?_); (case rdy28 => exact HR2.out); (case tby28 => exact HT.out _ HN2.out); rintro e w3 ⟨rfl, ho⟩; have HN3 := am (HN2.out.trans ho); clear ho))
       exact ⟨rfl, Ends.no HX.out (HOW.out.trans HN3.out)⟩
      | val u q =>
       have HX := am (show o = .val (⟨5, bsJ [], [], u⟩ : J) q from ho)
       clear ho
       go_enter Tryd.func28, Tryd.ntmps28
       go_wp2_with (first | (go_at_call 39; (with_reducible refine (peek_ok R s p c HC.out _ ?rd1x29).mono ?_); (case rd1x29 => exact HR1.out); rintro e w1 ⟨rfl, hb⟩; have HR2 := am (HR1.out.drawn hb); have HN2 := am ((On.refl R (W.alloc zJ)).drawn hb); have d2 := HR2.out.c1; clear hb) | (go_at_call 43; (with_reducible refine (Calls.val_of (list_calls R s k r' d p _ hl ?rdy30 ?tby30 hlt (HI.out) _ HE.out) rfl).mono ?_); (case rdy30 => exact HR2.out); (case tby30 => exact HT.out _ HN2.out); rintro e w3 ⟨v, rfl, hv, hr, ho⟩; have HR3 := am hr; have HN3 := am (HN2.out.trans ho); obtain ⟨v2, v3, rfl, j2, j3⟩ := hv; have j2 := below_base HSZ.out HN2.out j2; have j3 := below_base HSZ.out HN2.out j3; have HJ2 := am j2; have HJ3 := am j3; obtain ⟨A2, c2, e2⟩ := Kd.R_slice j2; obtain ⟨A3, c3, e3⟩ := Kd.R_slice j3; subst e2 e3; clear j2 j3; have HB3 := am (blk_on HB.out hRB (HN2.out.trans ho)); have b0 := (blk_cell HB3.out 0); have b1 := (blk_cell HB3.out 1); have b2 := (blk_cell HB3.out 2); have b3 := (blk_cell HB3.out 3); have g0 := blk_free HB3.out 0; have g1 := blk_free HB3.out 1; have g2 := blk_free HB3.out 2; have g3 := blk_free HB3.out 3; dsimp at b0 b1 b2 b3; clear hr ho))
       refine bodyPost_ret (results_cell_row rfl _ _ W.heap.size 25 #[.int .i64 5, .string ⟨#[]⟩, .slice A2 ([] : List ByteArray).length c2, .slice A3 u.length c3] (0, 0) _ rfl (blk4 HB3.out _ _ _ _) Tryd.underlying25 rfl (by kernel_rfl)) rfl ?_
       exact value_end (j := ⟨5, bsJ [], [], u⟩) HX.out HR3.out HN3.out HRW.out HJ2.out HJ3.out
     ·rw [if_neg h91] at hF
      have e91 : ((c.toNat : Int) == 91) = false := (beq_u8 c 91 (by omega)).trans (decide_eq_false h91)
      have e123 : ((c.toNat : Int) == 123) = true := (beq_u8 c 123 (by omega)).trans (decide_eq_true (hbr.resolve_left h91))
      clear h91 hbr
      obtain ⟨o1, hs, ho⟩ := omap_some _ _ _ hF
      have HE := am hs
      clear hs hF
      cases o1 with
      | err e q =>
       have HX := am (show o = .err e q from ho)
       clear ho
       go_enter Tryd.func28, Tryd.ntmps28
       go_wp2_with (first | (go_at_call 39; (with_reducible refine (peek_ok R s p c HC.out _ ?rd1x31).mono ?_); (case rd1x31 => exact HR1.out); rintro e w1 ⟨rfl, hb⟩; have HR2 := am (HR1.out.drawn hb); have HN2 := am ((On.refl R (W.alloc zJ)).drawn hb); have d2 := HR2.out.c1; clear hb) | (go_at_call 44; (with_reducible refine (Calls.err_of (object_calls R s k r' d p _ hl ?rdy32 ?tby32 hlt (HI.out) _ HE.out) rfl).mono ?_); (case rdy32 => exact HR2.out); (case tby32 => exact HT.out _ HN2.out); rintro e w3 ⟨rfl, ho⟩; have HN3 := am (HN2.out.trans ho); clear ho))
       exact ⟨rfl, Ends.no HX.out (HOW.out.trans HN3.out)⟩
      | val u q =>
       have HX := am (show o = .val (⟨6, bsJ [], u.1, u.2⟩ : J) q from ho)
       clear ho
       go_enter Tryd.func28, Tryd.ntmps28
       go_wp2_with (first | (go_at_call 39; (with_reducible refine (peek_ok R s p c HC.out _ ?rd1x33).mono ?_); (case rd1x33 => exact HR1.out); rintro e w1 ⟨rfl, hb⟩; have HR2 := am (HR1.out.drawn hb); have HN2 := am ((On.refl R (W.alloc zJ)).drawn hb); have d2 := HR2.out.c1; clear hb) | (go_at_call 44; (with_reducible refine (Calls.val_of (object_calls R s k r' d p _ hl ?rdy34 ?tby34 hlt (HI.out) _ HE.out) rfl).mono ?_); (case rdy34 => exact HR2.out); (case tby34 => exact HT.out _ HN2.out); rintro e w3 ⟨v, rfl, hv, hr, ho⟩; have HR3 := am hr; have HN3 := am (HN2.out.trans ho); obtain ⟨v2, v3, rfl, j2, j3⟩ := hv; have j2 := below_base HSZ.out HN2.out j2; have j3 := below_base HSZ.out HN2.out j3; have HJ2 := am j2; have HJ3 := am j3; obtain ⟨A2, c2, e2⟩ := Kd.R_slice j2; obtain ⟨A3, c3, e3⟩ := Kd.R_slice j3; subst e2 e3; clear j2 j3; have HB3 := am (blk_on HB.out hRB (HN2.out.trans ho)); have b0 := (blk_cell HB3.out 0); have b1 := (blk_cell HB3.out 1); have b2 := (blk_cell HB3.out 2); have b3 := (blk_cell HB3.out 3); have g0 := blk_free HB3.out 0; have g1 := blk_free HB3.out 1; have g2 := blk_free HB3.out 2; have g3 := blk_free HB3.out 3; dsimp at b0 b1 b2 b3; clear hr ho))
       refine bodyPost_ret (results_cell_row rfl _ _ W.heap.size 25 #[.int .i64 6, .string ⟨#[]⟩, .slice A2 u.1.length c2, .slice A3 u.2.length c3] (0, 0) _ rfl (blk4 HB3.out _ _ _ _) Tryd.underlying25 rfl (by kernel_rfl)) rfl ?_
       exact value_end (j := ⟨6, bsJ [], u.1, u.2⟩) HX.out HR3.out HN3.out HRW.out HJ2.out HJ3.out
   ·rw [if_neg hbr] at hF
    have HX := am (show o = .err 40 p by injection hF with hF; exact hF.symm)
    have e91 : ((c.toNat : Int) == 91) = false := (beq_u8 c 91 (by omega)).trans (decide_eq_false (fun h => hbr (.inl h)))
    have e123 : ((c.toNat : Int) == 123) = false := (beq_u8 c 123 (by omega)).trans (decide_eq_false (fun h => hbr (.inr h)))
    clear hF hbr
    go_enter Tryd.func28, Tryd.ntmps28
    go_wp2_with (first | (go_at_call 39; (with_reducible refine (peek_ok R s p c HC.out _ ?rd1x35).mono ?_); (case rd1x35 => exact HR1.out); rintro e w1 ⟨rfl, hb⟩; have HR2 := am (HR1.out.drawn hb); have HN2 := am ((On.refl R (W.alloc zJ)).drawn hb); have d2 := HR2.out.c1; clear hb) | (go_at_call 29; (with_reducible refine (fail_calls _ _ _ _).mono ?_); rintro e w9 ⟨rfl, hb⟩; have HB9 := am hb; clear hb))
    exact ⟨rfl, Ends.no HX.out (HOW.out.trans (HN2.out.drawn HB9.out))⟩
  ·have a1 : ¬ (48 : Int) ≤ (c.toNat : Int) := by omega
   have a3 : decide ((48 : Int) ≤ (c.toNat : Int)) = false := decide_eq_false a1
   clear hlo hdg
   by_cases h34 : c = 34
   ·rw [if_pos h34] at hF
    have e34 : ((c.toNat : Int) == 34) = true := (beq_u8 c 34 (by omega)).trans (decide_eq_true h34)
    clear h34
    obtain ⟨o1, hs, ho⟩ := omap_some _ _ _ hF
    have HE := am hs
    have HS := am (rfl : o1 = o1)
    clear hs hF
    cases o1 with
    | err e q =>
     have HX := am (show o = .err e q from ho)
     clear ho
     go_enter Tryd.func28, Tryd.ntmps28
     go_wp2_with (first | (go_at_call 39; (with_reducible refine (peek_ok R s p c HC.out _ ?rd1x36).mono ?_); (case rd1x36 => exact HR1.out); rintro e w1 ⟨rfl, hb⟩; have HR2 := am (HR1.out.drawn hb); have HN2 := am ((On.refl R (W.alloc zJ)).drawn hb); have d2 := HR2.out.c1; clear hb) | (go_at_call 42; (with_reducible refine (Calls.err_of (text_calls R s p k _ hl hlt _ ?rdy37 ?tby37 HE.out) rfl).mono ?_); (case rdy37 => exact HR2.out); (case tby37 => exact HT.out _ HN2.out); rintro e w3 ⟨rfl, ho⟩; have HN3 := am (HN2.out.trans ho); clear ho))
     exact ⟨rfl, Ends.no HX.out (HOW.out.trans HN3.out)⟩
    | val u q =>
     have HX := am (show o = .val (⟨4, bsJ u, [], []⟩ : J) q from ho)
     clear ho
     go_enter Tryd.func28, Tryd.ntmps28
     go_wp2_with (first | (go_at_call 39; (with_reducible refine (peek_ok R s p c HC.out _ ?rd1x38).mono ?_); (case rd1x38 => exact HR1.out); rintro e w1 ⟨rfl, hb⟩; have HR2 := am (HR1.out.drawn hb); have HN2 := am ((On.refl R (W.alloc zJ)).drawn hb); have d2 := HR2.out.c1; clear hb) | (go_at_call 42; (with_reducible refine (Calls.val_of (text_calls R s p k _ hl hlt _ ?rdy39 ?tby39 HE.out) rfl).mono ?_); (case rdy39 => exact HR2.out); (case tby39 => exact HT.out _ HN2.out); rintro e w3 ⟨v, rfl, hv, hr, ho⟩; have HR3 := am hr; have HN3 := am (HN2.out.trans ho); have hv : v = .string (bs u) := hv; subst hv; have HB3 := am (blk_on HB.out hRB (HN2.out.trans ho)); have b0 := (blk_cell HB3.out 0); have b1 := (blk_cell HB3.out 1); have b2 := (blk_cell HB3.out 2); have b3 := (blk_cell HB3.out 3); have g0 := blk_free HB3.out 0; have g1 := blk_free HB3.out 1; have g2 := blk_free HB3.out 2; have g3 := blk_free HB3.out 3; dsimp at b0 b1 b2 b3; clear hr ho))
     refine bodyPost_ret (results_cell_row rfl _ _ W.heap.size 25 #[.int .i64 4, .string (bs u), .slice none 0 0, .slice none 0 0] (0, 0) _ rfl (blk4 HB3.out _ _ _ _) Tryd.underlying25 rfl (by kernel_rfl)) rfl ?_
     exact value_end (j := ⟨4, bsJ u, [], []⟩) HX.out HR3.out HN3.out HRW.out (Kd.R_nil _ _ _ _ _) (Kd.R_nil _ _ _ _ _)
   rw [if_neg h34] at hF
   have e34 : ((c.toNat : Int) == 34) = false := (beq_u8 c 34 (by omega)).trans (decide_eq_false h34)
   clear h34
   by_cases hbr : c = 91 ∨ c = 123
   ·rw [if_pos hbr] at hF
    cases r with
    | zero =>
     have HX := am (show o = .err 46 p by injection hF with hF; exact hF.symm)
     clear hF
     have hd : ((32 : Int) ≤ 32 - ((0 : Nat) : Int)) := by omega
     by_cases h91 : c = 91
     ·have e91 : ((c.toNat : Int) == 91) = true := (beq_u8 c 91 (by omega)).trans (decide_eq_true h91)
      clear h91 hbr
      go_enter Tryd.func28, Tryd.ntmps28
      go_wp2_with (first | (go_at_call 39; (with_reducible refine (peek_ok R s p c HC.out _ ?rd1x40).mono ?_); (case rd1x40 => exact HR1.out); rintro e w1 ⟨rfl, hb⟩; have HR2 := am (HR1.out.drawn hb); have HN2 := am ((On.refl R (W.alloc zJ)).drawn hb); have d2 := HR2.out.c1; clear hb) | (go_at_call 29; (with_reducible refine (fail_calls _ _ _ _).mono ?_); rintro e w9 ⟨rfl, hb⟩; have HB9 := am hb; clear hb))
      exact ⟨rfl, Ends.no HX.out (HOW.out.trans (HN2.out.drawn HB9.out))⟩
     ·have e91 : ((c.toNat : Int) == 91) = false := (beq_u8 c 91 (by omega)).trans (decide_eq_false h91)
      have e123 : ((c.toNat : Int) == 123) = true := (beq_u8 c 123 (by omega)).trans (decide_eq_true (hbr.resolve_left h91))
      clear h91 hbr
      go_enter Tryd.func28, Tryd.ntmps28
      go_wp2_with (first | (go_at_call 39; (with_reducible refine (peek_ok R s p c HC.out _ ?rd1x41).mono ?_); (case rd1x41 => exact HR1.out); rintro e w1 ⟨rfl, hb⟩; have HR2 := am (HR1.out.drawn hb); have HN2 := am ((On.refl R (W.alloc zJ)).drawn hb); have d2 := HR2.out.c1; clear hb) | (go_at_call 29; (with_reducible refine (fail_calls _ _ _ _).mono ?_); rintro e w9 ⟨rfl, hb⟩; have HB9 := am hb; clear hb))
      exact ⟨rfl, Ends.no HX.out (HOW.out.trans (HN2.out.drawn HB9.out))⟩
    | succ r' =>
     simp only at hF
     have hd : ¬ ((32 : Int) ≤ 32 - ((r' + 1 : Nat) : Int)) := by omega
     have hd2 : decide ((32 : Int) ≤ 32 - ((r' + 1 : Nat) : Int)) = false := decide_eq_false hd
     have HI := am (show ValOK R s k r' (wrap64 (32 - ((r' + 1 : Nat) : Int) + 1)) by rw [Go.Proofs.YtaalajhmfdcalaaDoor.X.wr _ (by omega), show (32 - ((r' + 1 : Nat) : Int) + 1) = 32 - (r' : Int) by omega]; exact IH r' rfl)
     have HSZ := am esz
     generalize hdd : 32 - ((r' + 1 : Nat) : Int) = d at *
     clear hdd
     by_cases h91 : c = 91
     ·rw [if_pos h91] at hF
      have e91 : ((c.toNat : Int) == 91) = true := (beq_u8 c 91 (by omega)).trans (decide_eq_true h91)
      clear h91 hbr
      obtain ⟨o1, hs, ho⟩ := omap_some _ _ _ hF
      have HE := am hs
      clear hs hF
      cases o1 with
      | err e q =>
       have HX := am (show o = .err e q from ho)
       clear ho
       go_enter Tryd.func28, Tryd.ntmps28
       go_wp2_with (first | (go_at_call 39; (with_reducible refine (peek_ok R s p c HC.out _ ?rd1x42).mono ?_); (case rd1x42 => exact HR1.out); rintro e w1 ⟨rfl, hb⟩; have HR2 := am (HR1.out.drawn hb); have HN2 := am ((On.refl R (W.alloc zJ)).drawn hb); have d2 := HR2.out.c1; clear hb) | (go_at_call 43; (with_reducible refine (Calls.err_of (list_calls R s k r' d p _ hl ?rdy43 ?tby43 hlt (HI.out) _ HE.out) rfl).mono ?_); (case rdy43 => exact HR2.out); (case tby43 => exact HT.out _ HN2.out); rintro e w3 ⟨rfl, ho⟩; have HN3 := am (HN2.out.trans ho); clear ho))
       exact ⟨rfl, Ends.no HX.out (HOW.out.trans HN3.out)⟩
      | val u q =>
       have HX := am (show o = .val (⟨5, bsJ [], [], u⟩ : J) q from ho)
       clear ho
       go_enter Tryd.func28, Tryd.ntmps28
       go_wp2_with (first | (go_at_call 39; (with_reducible refine (peek_ok R s p c HC.out _ ?rd1x44).mono ?_); (case rd1x44 => exact HR1.out); rintro e w1 ⟨rfl, hb⟩; have HR2 := am (HR1.out.drawn hb); have HN2 := am ((On.refl R (W.alloc zJ)).drawn hb); have d2 := HR2.out.c1; clear hb) | (go_at_call 43; (with_reducible refine (Calls.val_of (list_calls R s k r' d p _ hl ?rdy45 ?tby45 hlt (HI.out) _ HE.out) rfl).mono ?_); (case rdy45 => exact HR2.out); (case tby45 => exact HT.out _ HN2.out); rintro e w3 ⟨v, rfl, hv, hr, ho⟩; have HR3 := am hr; have HN3 := am (HN2.out.trans ho); obtain ⟨v2, v3, rfl, j2, j3⟩ := hv; have j2 := below_base HSZ.out HN2.out j2; have j3 := below_base HSZ.out HN2.out j3; have HJ2 := am j2; have HJ3 := am j3; obtain ⟨A2, c2, e2⟩ := Kd.R_slice j2; obtain ⟨A3, c3, e3⟩ := Kd.R_slice j3; subst e2 e3; clear j2 j3; have HB3 := am (blk_on HB.out hRB (HN2.out.trans ho)); have b0 := (blk_cell HB3.out 0); have b1 := (blk_cell HB3.out 1); have b2 := (blk_cell HB3.out 2); have b3 := (blk_cell HB3.out 3); have g0 := blk_free HB3.out 0; have g1 := blk_free HB3.out 1; have g2 := blk_free HB3.out 2; have g3 := blk_free HB3.out 3; dsimp at b0 b1 b2 b3; clear hr ho))
       refine bodyPost_ret (results_cell_row rfl _ _ W.heap.size 25 #[.int .i64 5, .string ⟨#[]⟩, .slice A2 ([] : List ByteArray).length c2, .slice A3 u.length c3] (0, 0) _ rfl (blk4 HB3.out _ _ _ _) Tryd.underlying25 rfl (by kernel_rfl)) rfl ?_
       exact value_end (j := ⟨5, bsJ [], [], u⟩) HX.out HR3.out HN3.out HRW.out HJ2.out HJ3.out
     ·rw [if_neg h91] at hF
      have e91 : ((c.toNat : Int) == 91) = false := (beq_u8 c 91 (by omega)).trans (decide_eq_false h91)
      have e123 : ((c.toNat : Int) == 123) = true := (beq_u8 c 123 (by omega)).trans (decide_eq_true (hbr.resolve_left h91))
      clear h91 hbr
      obtain ⟨o1, hs, ho⟩ := omap_some _ _ _ hF
      have HE := am hs
      clear hs hF
      cases o1 with
      | err e q =>
       have HX := am (show o = .err e q from ho)
       clear ho
       go_enter Tryd.func28, Tryd.ntmps28
       go_wp2_with (first | (go_at_call 39; (with_reducible refine (peek_ok R s p c HC.out _ ?rd1x46).mono ?_); (case rd1x46 => exact HR1.out); rintro e w1 ⟨rfl, hb⟩; have HR2 := am (HR1.out.drawn hb); have HN2 := am ((On.refl R (W.alloc zJ)).drawn hb); have d2 := HR2.out.c1; clear hb) | (go_at_call 44; (with_reducible refine (Calls.err_of (object_calls R s k r' d p _ hl ?rdy47 ?tby47 hlt (HI.out) _ HE.out) rfl).mono ?_); (case rdy47 => exact HR2.out); (case tby47 => exact HT.out _ HN2.out); rintro e w3 ⟨rfl, ho⟩; have HN3 := am (HN2.out.trans ho); clear ho))
       exact ⟨rfl, Ends.no HX.out (HOW.out.trans HN3.out)⟩
      | val u q =>
       have HX := am (show o = .val (⟨6, bsJ [], u.1, u.2⟩ : J) q from ho)
       clear ho
       go_enter Tryd.func28, Tryd.ntmps28
       go_wp2_with (first | (go_at_call 39; (with_reducible refine (peek_ok R s p c HC.out _ ?rd1x48).mono ?_); (case rd1x48 => exact HR1.out); rintro e w1 ⟨rfl, hb⟩; have HR2 := am (HR1.out.drawn hb); have HN2 := am ((On.refl R (W.alloc zJ)).drawn hb); have d2 := HR2.out.c1; clear hb) | (go_at_call 44; (with_reducible refine (Calls.val_of (object_calls R s k r' d p _ hl ?rdy49 ?tby49 hlt (HI.out) _ HE.out) rfl).mono ?_); (case rdy49 => exact HR2.out); (case tby49 => exact HT.out _ HN2.out); rintro e w3 ⟨v, rfl, hv, hr, ho⟩; have HR3 := am hr; have HN3 := am (HN2.out.trans ho); obtain ⟨v2, v3, rfl, j2, j3⟩ := hv; have j2 := below_base HSZ.out HN2.out j2; have j3 := below_base HSZ.out HN2.out j3; have HJ2 := am j2; have HJ3 := am j3; obtain ⟨A2, c2, e2⟩ := Kd.R_slice j2; obtain ⟨A3, c3, e3⟩ := Kd.R_slice j3; subst e2 e3; clear j2 j3; have HB3 := am (blk_on HB.out hRB (HN2.out.trans ho)); have b0 := (blk_cell HB3.out 0); have b1 := (blk_cell HB3.out 1); have b2 := (blk_cell HB3.out 2); have b3 := (blk_cell HB3.out 3); have g0 := blk_free HB3.out 0; have g1 := blk_free HB3.out 1; have g2 := blk_free HB3.out 2; have g3 := blk_free HB3.out 3; dsimp at b0 b1 b2 b3; clear hr ho))
       refine bodyPost_ret (results_cell_row rfl _ _ W.heap.size 25 #[.int .i64 6, .string ⟨#[]⟩, .slice A2 u.1.length c2, .slice A3 u.2.length c3] (0, 0) _ rfl (blk4 HB3.out _ _ _ _) Tryd.underlying25 rfl (by kernel_rfl)) rfl ?_
       exact value_end (j := ⟨6, bsJ [], u.1, u.2⟩) HX.out HR3.out HN3.out HRW.out HJ2.out HJ3.out
   ·rw [if_neg hbr] at hF
    have HX := am (show o = .err 40 p by injection hF with hF; exact hF.symm)
    have e91 : ((c.toNat : Int) == 91) = false := (beq_u8 c 91 (by omega)).trans (decide_eq_false (fun h => hbr (.inl h)))
    have e123 : ((c.toNat : Int) == 123) = false := (beq_u8 c 123 (by omega)).trans (decide_eq_false (fun h => hbr (.inr h)))
    clear hF hbr
    go_enter Tryd.func28, Tryd.ntmps28
    go_wp2_with (first | (go_at_call 39; (with_reducible refine (peek_ok R s p c HC.out _ ?rd1x50).mono ?_); (case rd1x50 => exact HR1.out); rintro e w1 ⟨rfl, hb⟩; have HR2 := am (HR1.out.drawn hb); have HN2 := am ((On.refl R (W.alloc zJ)).drawn hb); have d2 := HR2.out.c1; clear hb) | (go_at_call 29; (with_reducible refine (fail_calls _ _ _ _).mono ?_); rintro e w9 ⟨rfl, hb⟩; have HB9 := am hb; clear hb))
    exact ⟨rfl, Ends.no HX.out (HOW.out.trans (HN2.out.drawn HB9.out))⟩
theorem value_ok (s : ByteArray) (k : Nat) (hl : s.size ≤ 10000000000) (R : Nat) : ∀ r, r ≤ 32 → ValOK R s k r (32 - (r : Int))
 | 0, h => value_step R s k 0 hl h (fun r' hr => by omega)
 | r + 1, h => value_step R s k (r + 1) hl h (fun r' hr => by have e : r' = r := (by omega); rw [e]; exact value_ok s k hl R r (by omega))
end Go.Proofs.YtaalajhmfdcalaaDoor.X
