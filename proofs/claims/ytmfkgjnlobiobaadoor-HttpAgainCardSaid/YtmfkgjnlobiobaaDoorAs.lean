/- What has been read may be printed, and is not much longer then: plain facts for HttpAgain. -/
import Derived.Test.YtmfkgjnlobiobaaDoorRb
import Derived.Test.YtmfkgjnlobiobaaDoorRs
namespace Go.Proofs.YtmfkgjnlobiobaaDoor.X
open Go.RowKit Go.Shelf Go.Proofs.YtmfkgjnlobiobaaDoorW.PrintWords
/-! ### a field's line that reads -/
theorem pName_low {c : UInt8} (h : pName c = true) : pName (low c) = true := by
  have e := low_toNat c
  unfold pName at h ⊢
  simp only [decide_eq_true_eq] at h ⊢
  split at e <;> omega
theorem nameB_lows {l : List UInt8} (h : nameB l = true) : nameB (lows l) = true := by
  unfold nameB at h ⊢
  simp only [Bool.and_eq_true, decide_eq_true_eq, List.all_eq_true] at h ⊢
  refine ⟨by unfold lows; rw [List.length_map]; exact h.1, fun c hc => ?_⟩
  obtain ⟨d, hd, rfl⟩ := List.mem_map.1 hc
  exact pName_low (h.2 d hd)
theorem dropWhile_head (p : UInt8 → Bool) : ∀ (l : List UInt8) (c : UInt8), (l.dropWhile p).head? = some c → p c = false
  | [], c, h => by simp at h
  | a :: r, c, h => by
    rw [List.dropWhile_cons] at h
    split at h
    · exact dropWhile_head p r c h
    · rename_i ha
      simp at h
      rw [← h]
      simpa using ha
theorem dropWhile_sub (p : UInt8 → Bool) (l : List UInt8) : ∀ c ∈ l.dropWhile p, c ∈ l := fun _ hc => (List.dropWhile_sublist p).subset hc
/-- A trimmed text: its bytes are the text's; neither end is in the set. -/
theorem trimS_parts (l cs : List UInt8) : (∀ c ∈ Lib.trimS l cs, c ∈ l) ∧ (∀ c, (Lib.trimS l cs).head? = some c → cs.contains c = false) ∧ (∀ c, (Lib.trimS l cs).getLast? = some c → cs.contains c = false) := by
  unfold Lib.trimS Lib.trimLeftS Lib.trimRightS
  refine ⟨fun c hc => ?_, fun c hc => dropWhile_head _ _ c hc, fun c hc => ?_⟩
  · have h1 := dropWhile_sub _ _ c hc
    rw [List.mem_reverse] at h1
    have h2 := dropWhile_sub _ _ c h1
    rwa [List.mem_reverse] at h2
  · have h3 : ((l.reverse.dropWhile (cs.contains ·)).reverse).getLast? = some c := by
      obtain ⟨t, ht⟩ := List.dropWhile_suffix (cs.contains ·) (l := (l.reverse.dropWhile (cs.contains ·)).reverse)
      rw [← ht, List.getLast?_append, hc]
      rfl
    rw [List.getLast?_reverse] at h3
    exact dropWhile_head _ _ c h3
theorem pfF_good {l : List UInt8} (h : (pfF l).2.2 = true) : nameB (pfF l).1 = true ∧ lows (pfF l).1 = (pfF l).1 ∧ valB (pfF l).2.1 = true ∧ (pfF l).1.length + 1 + (pfF l).2.1.length ≤ l.length := by
  unfold pfF at h ⊢
  split at h
  · rename_i hc
    rw [if_pos hc]
    dsimp only at h ⊢
    simp only [Bool.and_eq_true, decide_eq_true_eq, Bool.not_eq_true', List.all_eq_true] at h hc
    obtain ⟨hl, h9⟩ := h
    obtain ⟨hcut, hname, hall⟩ := hc
    obtain ⟨t1, t2, t3⟩ := trimS_parts (Lib.cut l [58]).2.1 [32, 9]
    have tl := trimS_le (Lib.cut l [58]).2.1 [32, 9]
    have hsum : (Lib.cut l [58]).1.length + 1 + (Lib.cut l [58]).2.1.length = l.length := by
      have hr := Lib.index_room l [58]
      unfold Lib.cut at hcut ⊢
      split
      · rename_i h0
        have := hr h0
        have h1 : ([58] : List UInt8).length = 1 := rfl
        rw [h1] at this
        simp only [List.length_take, List.length_drop, h1]
        omega
      · rename_i h0
        rw [if_neg h0] at hcut
        cases hcut
    have no9 : ∀ c ∈ Lib.trimS (Lib.cut l [58]).2.1 [32, 9], c ≠ 9 := by
      intro c hc e
      subst e
      unfold Lib.contains at h9
      have hn := of_decide_eq_false h9
      obtain ⟨a, b, hab⟩ := List.append_of_mem hc
      apply hn
      rcases Lib.index_spec (Lib.trimS (Lib.cut l [58]).2.1 [32, 9]) [9] with ⟨_, hno⟩ | ⟨i, e, _⟩
      · have := hno a.length (by rw [hab]; simp)
        unfold Lib.occAt at this
        rw [hab, List.drop_left' rfl] at this
        simp [List.isPrefixOf] at this
      · omega
    refine ⟨nameB_lows hname, lows_lows _, ?_, ?_⟩
    · unfold valB
      rw [decide_eq_true hl]
      simp only [Bool.true_and, Bool.and_eq_true, Bool.not_eq_true', List.all_eq_true]
      refine ⟨?_, ?_, fun c hc => ?_⟩
      · unfold Lib.hasPrefix
        rw [Bool.eq_false_iff]
        intro hq
        rw [List.isPrefixOf_iff_prefix] at hq
        obtain ⟨t, ht⟩ := hq
        have := t2 32 (by rw [← ht]; rfl)
        revert this; decide
      · unfold Lib.hasSuffix
        rw [Bool.eq_false_iff]
        intro hq
        rw [List.isSuffixOf_iff_suffix] at hq
        obtain ⟨t, ht⟩ := hq
        have := t3 32 (by rw [← ht]; simp)
        revert this; decide
      · have h1 := hall c (t1 c hc)
        have h2 := no9 c hc
        unfold pField at h1
        unfold pVal
        simp only [decide_eq_true_eq] at h1 ⊢
        rcases h1 with h1 | h1
        · exact h1
        · exact absurd (UInt8.toNat_inj.1 (show c.toNat = (9 : UInt8).toNat from h1)) h2
    · unfold lows
      rw [List.length_map]
      omega
  · cases h
/-! ### what the lines add up to -/
def phi (l : List (List UInt8 × List UInt8)) : Nat := (l.flatMap (fun f => lineF f.1 f.2)).length
def clen (n : Nat) : Nat := if n = 0 then 0 else 18 + (Lib.itoa n).length
theorem clF_len (b : List UInt8) : (clF b).length = clen b.length := by
  unfold clF clen
  by_cases h : b = []
  · subst h; rfl
  · have : b.length ≠ 0 := fun e => h (List.length_eq_zero_iff.1 e)
    rw [if_neg h, if_neg this]
    simp only [sCL, List.length_append, List.length_cons, List.length_nil]
    omega
theorem itoa_num (l : List UInt8) (h : l.all pDig = true) (h1 : 1 ≤ l.length) : (Lib.itoa (numF l)).length ≤ l.length := by
  rw [itoa_nat, Lib.decDigits_length]
  have := nd_le (l.length - 1) (numF l) (by have := numF_lt l h; rwa [Nat.sub_add_cancel h1])
  omega
/-- What has been read so far may be printed. -/
structure Fit (s : HS) : Prop where
  ok : ∀ f ∈ s.fields, okF f.1 f.2 = true ∧ lows f.1 = f.1
  many : s.fields.length ≤ 64
  len : s.sized = false → s.length = 0
  small : s.length < 1000000000
theorem phi_app (l : List (List UInt8 × List UInt8)) (f : List UInt8 × List UInt8) : phi (l ++ [f]) = phi l + (lineF f.1 f.2).length := by
  unfold phi
  rw [List.flatMap_append, List.length_append]
  simp
/-- How much longer than what was read: one a field, one for the length. -/
def extra (s : HS) : Nat := s.fields.length + (if s.sized = true then 1 else 0)
def paid (s : HS) : Nat := phi s.fields + clen s.length
theorem stepH_go {s s' : HS} {p : Nat} {line : List UInt8} (hf : Fit s) (h : stepH s (p, line) = .go s') : Fit s' ∧ paid s' + extra s ≤ paid s + line.length + 2 + extra s' ∧ s'.behind = s.behind := by
  unfold stepH at h
  dsimp only at h
  split at h
  · cases h
  · split at h
    · cases h
    · rename_i hok
      have hok' : (pfF line).2.2 = true := by simpa using hok
      obtain ⟨g1, g2, g3, g4⟩ := pfF_good hok'
      split at h
      · cases h
      · rename_i hte
        split at h
        · rename_i hcl
          split at h
          · cases h
          · rename_i hd
            injection h with h
            subst h
            simp only [Bool.or_eq_true, Bool.not_eq_true', not_or, Bool.not_eq_false, Bool.not_eq_true] at hd
            obtain ⟨hsz, hdg⟩ := hd
            unfold digsB at hdg
            simp only [Bool.and_eq_true, decide_eq_true_eq] at hdg
            have hn := numF_lt _ hdg.2.2
            have hp : numF (pfF line).2.1 < 1000000000 := Nat.lt_of_lt_of_le hn (Nat.pow_le_pow_right (by decide) hdg.2.1)
            refine ⟨⟨hf.ok, hf.many, fun h => (by cases h), hp⟩, ?_, rfl⟩
            have hi := itoa_num _ hdg.2.2 hdg.1
            have hl0 := hf.len hsz
            rw [hcl] at g4
            have h14 : sCL.length = 14 := rfl
            have c1 : clen (numF (pfF line).2.1) ≤ 18 + (pfF line).2.1.length := by unfold clen; split <;> omega
            show phi s.fields + clen (numF (pfF line).2.1) + (s.fields.length + (if s.sized = true then 1 else 0)) ≤ phi s.fields + clen s.length + line.length + 2 + (s.fields.length + (if true = true then 1 else 0))
            rw [hsz, hl0, show clen 0 = 0 from rfl, if_neg (by decide), if_pos rfl]
            omega
        · rename_i hcl
          split at h
          · cases h
          · rename_i h64
            injection h with h
            subst h
            have hm := hf.many
            refine ⟨⟨fun f hfm => ?_, by simp only [List.length_append, List.length_cons, List.length_nil]; omega, hf.len, hf.small⟩, ?_, rfl⟩
            · rcases List.mem_append.1 hfm with hfm | hfm
              · exact hf.ok f hfm
              · rw [List.mem_singleton] at hfm
                subst hfm
                refine ⟨?_, g2⟩
                unfold okF
                dsimp only
                rw [g2, g1, g3]
                have e1 : ((pfF line).1 == sCL) = false := beq_eq_false_iff_ne.2 hcl
                have e2 : ((pfF line).1 == sTE) = false := beq_eq_false_iff_ne.2 hte
                rw [e1, e2]
                rfl
            · unfold paid extra
              rw [phi_app]
              dsimp only
              rw [lineF_fl, g2]
              unfold fl
              simp only [List.length_append, List.length_cons, List.length_nil]
              split <;> simp only [List.length_cons, List.length_nil] <;> omega
theorem runH_fit : ∀ (K : Nat) (s s' : HS) (l : List UInt8) (pos : Nat), Fit s → runH s (linesL K l pos) = .stop s' → Fit s' ∧ paid s' + pos + extra s + 2 ≤ paid s + s'.behind + extra s'
  | 0, s, s', l, pos, _, h => by simp [linesL, runH] at h
  | K + 1, s, s', l, pos, hf, h => by
    rw [linesL] at h
    by_cases hi : Lib.index l crlf < 0
    · rw [if_pos hi] at h
      have hb : stepH s (pos, [10]) = .bad 153 pos := by
        unfold stepH
        rw [if_neg (by simp), if_pos pf10]
      simp [runH, hb] at h
    · rw [if_neg hi] at h
      have hroom := Lib.index_room l crlf (by omega)
      have h2 : crlf.length = 2 := rfl
      rw [h2] at hroom
      simp only [runH] at h
      cases hst : stepH s (pos, l.take (Lib.index l crlf).toNat) with
      | go s2 =>
        rw [hst] at h
        obtain ⟨f2, p2, _⟩ := stepH_go hf hst
        obtain ⟨f3, p3⟩ := runH_fit K s2 s' _ _ f2 h
        rw [List.length_take] at p2
        exact ⟨f3, by omega⟩
      | stop s2 =>
        rw [hst] at h
        injection h with h
        subst h
        have hs : s2 = { s with behind := pos + 2 } := by
          unfold stepH at hst
          dsimp only at hst
          split at hst
          · injection hst with hst
            exact hst.symm
          · repeat' split at hst
            all_goals cases hst
        subst hs
        exact ⟨⟨hf.ok, hf.many, hf.len, hf.small⟩, by unfold paid extra; dsimp only; omega⟩
      | bad e a =>
        rw [hst] at h
        cases h
theorem fit_start : Fit .start := ⟨fun f hf => (by cases hf), (by simp [HS.start]), fun _ => rfl, (by simp [HS.start])⟩
/-- What a head that reads holds. -/
theorem parseHeadF_fit (raw : List UInt8) (p : Nat) (h : (parseHeadF raw p).2.2.2.1 = 0) : (∀ f ∈ (parseHeadF raw p).1, okF f.1 f.2 = true ∧ lows f.1 = f.1) ∧ (parseHeadF raw p).1.length ≤ 64 ∧
    (parseHeadF raw p).2.2.1 ≤ raw.length ∧ p + phi (parseHeadF raw p).1 + clen (raw.drop (parseHeadF raw p).2.2.1).length + 2 ≤ (parseHeadF raw p).2.2.1 + 65 ∧ (raw.drop (parseHeadF raw p).2.2.1).length < 1000000000 := by
  obtain ⟨s, hs, he⟩ := parseHeadF_stop raw p h
  rw [he] at h ⊢
  have hok := endH_ok raw s h
  obtain ⟨f, pd⟩ := runH_fit _ _ _ _ _ fit_start hs
  have e : endH raw s = (s.fields, s.length, s.behind, 0, 0) := by unfold endH; rw [if_neg (by omega)]
  rw [e]
  dsimp only
  have hb : (raw.drop s.behind).length = s.length := by rw [List.length_drop]; omega
  rw [hb]
  have e0 : paid .start = 0 := rfl
  have e1 : extra .start = 0 := rfl
  rw [e0, e1] at pd
  have hm := f.many
  have hx : extra s ≤ 65 := by unfold extra; split <;> omega
  refine ⟨f.ok, f.many, by omega, ?_, f.small⟩
  unfold paid at pd
  omega
theorem headF_len (first : List UInt8) (l : List (List UInt8 × List UInt8)) (b : List UInt8) : (headF first l b).length = first.length + 2 + phi l + clen b.length + 2 := by
  unfold headF
  rw [← clF_len]
  simp only [List.length_append, List.length_cons, List.length_nil, phi]
/-- A request that reads may be printed, unless it is too long then. -/
theorem parseF_good (raw : List UInt8) (h : okP (parseF raw)) : ∃ m t l b, parseF raw = (m, t, l, b, 0, 0) ∧ (∀ f ∈ l, okF f.1 f.2 = true ∧ lows f.1 = f.1) ∧ l.length ≤ 64 ∧ b.length < 1000000000 ∧
    ((reqF m t l b = ([], 1) ∧ 30000 < raw.length) ∨ ((reqF m t l b).2 = 0)) := by
  unfold okP parseF at h
  unfold parseF
  by_cases hbig : raw.length > 32768
  · rw [if_pos hbig] at h
    simp [badP] at h
  · rw [if_neg hbig] at h ⊢
    by_cases hc : ((Lib.cut raw [32]).2.2 && methB (Lib.cut raw [32]).1) = true
    · rw [if_pos hc] at h ⊢
      simp only [Bool.and_eq_true] at hc
      have hsum := cut_sum raw hc.1
      generalize Lib.cut raw [32] = c at h hc hsum ⊢
      obtain ⟨m, b, f⟩ := c
      dsimp only at h hc hsum ⊢
      have hn := tw_le pVis b
      unfold targP at h ⊢
      by_cases hnb : (b.takeWhile pVis).length = b.length
      · rw [if_pos hnb] at h
        simp [badP] at h
      · rw [if_neg hnb] at h ⊢
        by_cases hq : b[(b.takeWhile pVis).length]? = some 32 ∧ targB (b.take (b.takeWhile pVis).length) = true
        · rw [if_pos hq] at h ⊢
          by_cases hpre : Lib.hasPrefix (raw.drop (m.length + 1 + (b.takeWhile pVis).length + 1)) sV2 = true
          · rw [if_pos hpre] at h ⊢
            unfold tailP at h ⊢
            by_cases he : (parseHeadF raw (m.length + 1 + (b.takeWhile pVis).length + 1 + 10)).2.2.2.1 = 0
            · rw [if_pos he]
              obtain ⟨q1, q2, q3, q4, q5⟩ := parseHeadF_fit raw _ he
              refine ⟨m, _, _, _, rfl, q1, q2, q5, ?_⟩
              have hall : (parseHeadF raw (m.length + 1 + (b.takeWhile pVis).length + 1 + 10)).1.all (fun f => okF f.1 f.2) = true := List.all_eq_true.2 (fun f hf => (q1 f hf).1)
              unfold reqF restF
              rw [if_neg (by rw [hc.2]; decide), if_neg (by rw [hq.2]; decide), if_neg (by omega), if_neg (by rw [hall]; decide), headF_len]
              have hfl : (m ++ [32] ++ b.take (b.takeWhile pVis).length ++ sVer).length + 2 = m.length + 1 + (b.takeWhile pVis).length + 1 + 10 := by
                simp only [List.length_append, List.length_take, List.length_cons, List.length_nil, sVer]
                omega
              rw [List.length_drop] at q4
              rw [List.length_drop]
              split
              · rename_i hlong
                exact .inl ⟨rfl, by omega⟩
              · exact .inr rfl
            · rw [if_neg he] at h
              exact absurd h he
          · rw [if_neg hpre] at h
            simp [badP] at h
        · rw [if_neg hq] at h
          simp [badP] at h
    · rw [if_neg hc] at h
      simp [badP] at h
end Go.Proofs.YtmfkgjnlobiobaaDoor.X
namespace Go.Proofs.YtmfkgjnlobiobaaDoor.X
open Go.RowKit Go.Shelf Go.Proofs.YtmfkgjnlobiobaaDoorW.PrintWords
theorem parseRF_good (raw : List UInt8) (h : okS (parseRF raw)) : ∃ (n : Nat) (l : List (List UInt8 × List UInt8)) (b : List UInt8), parseRF raw = (n, l, b, 0, 0) ∧ (∀ f ∈ l, okF f.1 f.2 = true ∧ lows f.1 = f.1) ∧ l.length ≤ 64 ∧ b.length < 1000000000 ∧
    ((respF n l b = ([], 1) ∧ 30000 < raw.length) ∨ ((respF n l b).2 = 0)) := by
  unfold okS parseRF at h
  unfold parseRF
  by_cases hbig : raw.length > 32768
  · rw [if_pos hbig] at h
    simp [badS] at h
  · rw [if_neg hbig] at h ⊢
    by_cases hp : Lib.hasPrefix raw sV9 = true
    · rw [if_pos hp] at h ⊢
      by_cases hq : 100 ≤ statF (raw.drop 9) ∧ statF (raw.drop 9) ≤ 599 ∧ Lib.hasPrefix (raw.drop 9) (firstS (statF (raw.drop 9))) = true
      · rw [if_pos hq] at h ⊢
        unfold tailS at h ⊢
        by_cases he : (parseHeadF raw (9 + (firstS (statF (raw.drop 9))).length)).2.2.2.1 = 0
        · rw [if_pos he]
          obtain ⟨q1, q2, q3, q4, q5⟩ := parseHeadF_fit raw _ he
          refine ⟨statF (raw.drop 9), _, _, rfl, q1, q2, q5, ?_⟩
          have hall : (parseHeadF raw (9 + (firstS (statF (raw.drop 9))).length)).1.all (fun f => okF f.1 f.2) = true := List.all_eq_true.2 (fun f hf => (q1 f hf).1)
          have h1 := hq.1
          have h2 := hq.2.1
          unfold respF restF
          rw [if_neg (by omega), if_neg (by omega), if_neg (by rw [hall]; decide), headF_len, Int.toNat_natCast]
          have hfl : (lineR (statF (raw.drop 9))).length + 2 = 9 + (firstS (statF (raw.drop 9))).length := by
            unfold lineR firstS sV9
            simp only [List.length_append, List.length_cons, List.length_nil]
            omega
          rw [List.length_drop] at q4
          rw [List.length_drop]
          split
          · rename_i hlong
            exact .inl ⟨rfl, by omega⟩
          · exact .inr rfl
        · rw [if_neg he] at h
          exact absurd h he
      · rw [if_neg hq] at h
        simp [badS] at h
    · rw [if_neg hp] at h
      simp [badS] at h
end Go.Proofs.YtmfkgjnlobiobaaDoor.X
