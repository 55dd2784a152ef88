/- Parse and Print, whole: their contracts; what they come to, in plain Lean. -/
import Derived.Test.YtaalajhmfdcalaaDoorBb2
import Derived.Test.YtaalajhmfdcalaaDoorBb0
import Derived.Lib.ValidLaws
import Derived.Test.YtaalajhmfdcalaaDoorCards
import Derived.Test.YtaalajhmfdcalaaDoorTie
import Derived.Lay
import Derived.MakeChecks
import Derived.Stop.LaidErr
import Derived.ShapedOpen
import Derived.Shelf.Vars
import Derived.Lib.LaidTab
import Derived.Lib.LaidU8T
set_option linter.unusedVariables false
set_option linter.unusedSimpArgs false
namespace Go.Proofs.YtaalajhmfdcalaaDoor.X
open Go.RowKit Go.Lib Go.Proofs.YtaalajhmfdcalaaDoorW.PrintWords
/-- A fault e at p' of what begins at p: the text ends there, or, cut there, it is found to end there. -/
def Cut (s : List UInt8) (p e p' : Nat) (G : List UInt8 → Prop) : Prop := (e = 3 ∧ p' = s.length) ∨ ((e ≠ 3 ∧ e ≠ 0) ∧ p ≤ p' ∧ p' < s.length ∧ G (s.take p'))
theorem Cut.imp {s : List UInt8} {p q e p' : Nat} {G G' : List UInt8 → Prop} (h : Cut s q e p' G) (hp : p ≤ q) (hg : ∀ t, q ≤ p' → p' < s.length → t = s.take p' → G t → G' t) : Cut s p e p' G' := by
  rcases h with h | ⟨h1, h2, h3, h4⟩
  · exact .inl h
  · exact .inr ⟨h1, by omega, h3, hg _ h2 h3 rfl h4⟩
theorem len_take {s : List UInt8} {n : Nat} (h : n < s.length) : (s.take n).length = n := by rw [List.length_take]; omega
theorem none_take {s : List UInt8} {n i : Nat} (h : n < s.length) (hi : n ≤ i) : (s.take n)[i]? = none := by rw [List.getElem?_eq_none_iff, len_take h]; exact hi
theorem at_take {s : List UInt8} {n i : Nat} (hi : i < n) : (s.take n)[i]? = s[i]? := List.getElem?_take_of_lt hi
theorem wordF_tr (s : List UInt8) : ∀ (w : List UInt8) (p e p' : Nat), wordF s w p = .err e p' → Cut s p e p' (fun t => wordF t w p = .err 3 p')
  | [], p, e, p', h => by cases h
  | c :: w, p, e, p', h => by
    cases hc : s[p]? with
    | none => rw [wordF_short _ _ _ _ hc] at h; injection h with h1 h2; exact .inl ⟨h1.symm, h2.symm⟩
    | some x =>
      have hlt := (List.getElem?_eq_some_iff.1 hc).1
      by_cases hx : x = c
      · have hc' : s[p]? = some c := by rw [hc, hx]
        rw [wordF_on _ _ _ _ hc'] at h
        refine (wordF_tr s w _ _ _ h).imp (Nat.le_succ p) fun t h1 h2 ht hg => ?_
        rw [wordF_on _ _ _ _ (by rw [ht, at_take (by omega)]; exact hc')]
        exact hg
      · rw [wordF_bad _ _ _ _ _ hc hx] at h
        injection h with h1 h2
        subst h1; subst h2
        exact .inr ⟨by decide, Nat.le_refl _, hlt, by dsimp only; rw [wordF_short _ _ _ _ (none_take hlt (Nat.le_refl _)), len_take hlt]⟩
theorem fourF_tr (s : List UInt8) : ∀ (k x p e p' : Nat), fourF s k x p = .err e p' → Cut s p e p' (fun t => fourF t k x p = .err 3 p')
  | 0, x, p, e, p', h => by cases h
  | k + 1, x, p, e, p', h => by
    cases hc : s[p]? with
    | none => rw [fourF_short _ _ _ _ hc] at h; injection h with h1 h2; exact .inl ⟨h1.symm, h2.symm⟩
    | some c =>
      have hlt := (List.getElem?_eq_some_iff.1 hc).1
      cases hx : hexF c with
      | none =>
        rw [fourF_bad _ _ _ _ _ hc hx] at h
        injection h with h1 h2
        subst h1; subst h2
        exact .inr ⟨by decide, Nat.le_refl _, hlt, by dsimp only; rw [fourF_short _ _ _ _ (none_take hlt (Nat.le_refl _)), len_take hlt]⟩
      | some d =>
        rw [fourF_on _ _ _ _ _ _ hc hx] at h
        refine (fourF_tr s k _ _ _ _ h).imp (Nat.le_succ p) fun t h1 h2 ht hg => ?_
        rw [fourF_on _ _ _ _ _ _ (by rw [ht, at_take (by omega)]; exact hc) hx]
        exact hg
theorem mustF_tr (s : List UInt8) (f : Nat) : ∀ (w : List UInt8) (p e p' : Nat), mustF s f w p = .err e p' → (e = 3 ∧ p' = s.length ) ∨ (e = 43 ∧ p' = f)
  | [], p, e, p', h => by cases h
  | c :: w, p, e, p', h => by
    cases hc : s[p]? with
    | none => rw [mustF_short _ _ _ _ _ hc] at h; injection h with h1 h2; exact .inl ⟨h1.symm, h2.symm⟩
    | some x =>
      by_cases hx : x = c
      · rw [mustF_on _ _ _ _ _ (by rw [hc, hx])] at h
        exact mustF_tr s f w _ _ _ h
      · rw [mustF_bad _ _ _ _ _ _ hc hx] at h
        injection h with h1 h2
        exact .inr ⟨h1.symm, h2.symm⟩
theorem escF_short (s : List UInt8) (p : Nat) (h : s[p + 1]? = none) : escF s p = .err 3 s.length := by unfold escF; rw [h]
theorem escF_from {s : List UInt8} {p : Nat} (hp : p < s.length) : Cut s p 43 p (fun t => escF t p = .err 3 p) :=
  .inr ⟨by decide, Nat.le_refl _, hp, by dsimp only; rw [escF_short _ _ (none_take hp (by omega)), len_take hp]⟩
theorem pairF_tr {s : List UInt8} {p x p1 e p' : Nat} (hp : p < s.length) (h1 : p + 6 ≤ p1) (h : pairF s p x p1 = .err e p') : (e = 43 ∧ p' = p) ∨ Cut s p1 e p' (fun t => pairF t p x p1 = .err 3 p') := by
  unfold pairF at h
  cases hm : mustF s p [92, 117] p1 with
  | err e1 q1 =>
    rw [hm] at h
    simp only at h
    injection h with ha hb
    subst ha; subst hb
    rcases mustF_tr s p _ _ _ _ hm with ⟨h2, h3⟩ | ⟨h2, h3⟩
    · exact .inr (.inl ⟨h2, h3⟩)
    · exact .inl ⟨h2, h3⟩
  | val u p2 =>
    rw [hm] at h
    have hm2 := (mustF_val _ _ _ _ _ _ hm).1
    simp only [List.length_cons, List.length_nil] at hm2
    simp only at h
    cases hf : fourF s 4 0 p2 with
    | err e1 q1 =>
      rw [hf] at h
      simp only at h
      injection h with ha hb
      subst ha; subst hb
      refine .inr ((fourF_tr s _ _ _ _ _ hf).imp (by omega) fun t k1 k2 ht hg => ?_)
      unfold pairF
      rw [mustF_ag p _ _ _ _ hm (ht ▸ Ag.take s q1 p2 (by omega) k1)]
      simp only
      rw [hg]
    | val y p3 =>
      rw [hf] at h
      simp only at h
      split at h
      · injection h with ha hb
        exact .inl ⟨ha.symm, hb.symm⟩
      · cases h
theorem escF_tr {s : List UInt8} {p e p' : Nat} (hp : p < s.length) (h : escF s p = .err e p') : Cut s p e p' (fun t => escF t p = .err 3 p') := by
  have h0 := h
  unfold escF at h
  cases hc : s[p + 1]? with
  | none => rw [hc] at h; simp only at h; injection h with h1 h2; exact .inl ⟨h1.symm, h2.symm⟩
  | some c =>
    have hlt := (List.getElem?_eq_some_iff.1 hc).1
    rw [hc] at h
    simp only at h
    cases hx : escdF c with
    | some x => rw [hx] at h; cases h
    | none =>
      rw [hx] at h
      simp only at h
      split at h
      · rename_i h117
        have go : ∀ t : List UInt8, t[p + 1]? = some c → ∀ o : Out Nat, (match fourF t 4 0 (p + 2) with
            | .err e p => .err e p
            | .val x p1 => if 0xdc00 ≤ x ∧ x ≤ 0xdfff then .err 43 p else if 0xd800 ≤ x ∧ x ≤ 0xdbff then pairF t p x p1 else .val x p1) = o → escF t p = o := by
          intro t ht o ho
          rw [← ho]
          unfold escF
          rw [ht]
          simp only [hx, if_pos h117]
          rfl
        cases hf : fourF s 4 0 (p + 2) with
        | err e1 q1 =>
          rw [hf] at h
          simp only at h
          injection h with ha hb
          subst ha; subst hb
          refine (fourF_tr s _ _ _ _ _ hf).imp (by omega) fun t k1 k2 ht hg => ?_
          refine go t (by rw [ht, at_take (by omega)]; exact hc) _ ?_
          rw [hg]
        | val x p1 =>
          have hv := fourF_val _ _ _ _ _ _ hf
          rw [hf] at h
          simp only at h
          split at h
          · injection h with ha hb
            subst ha; subst hb
            exact escF_from hp
          · rename_i hn1
            split at h
            · rename_i hn2
              rcases pairF_tr hp (by omega) h with ⟨k1, k2⟩ | hcut
              · subst k1; subst k2; exact escF_from hp
              · refine hcut.imp (by omega) fun t k1 k2 ht hg => ?_
                refine go t (by rw [ht, at_take (by omega)]; exact hc) _ ?_
                rw [fourF_ag _ _ _ _ _ hf (ht ▸ Ag.take s p' p1 (by omega) k1)]
                simp only
                rw [if_neg hn1, if_pos hn2]
                exact hg
            · cases h
      · injection h with ha hb
        subst ha; subst hb
        exact .inr ⟨by decide, by omega, hlt, by dsimp only; rw [escF_short _ _ (none_take hlt (Nat.le_refl _)), len_take hlt]⟩
theorem numberF_tr {s : List UInt8} {p e p' : Nat} (h : numberF s p = .err e p') : Cut s p e p' (fun t => numberF t p = .err 3 p') := by
  unfold numberF at h
  split at h
  · cases h
  · rename_i hb
    split at h
    · injection h with h1 h2; exact .inl ⟨h1.symm, h2.symm⟩
    · rename_i hl
      injection h with h1 h2
      subst h1; subst h2
      refine .inr ⟨by decide, by omega, by omega, ?_⟩
      have hlt : p + (litF (s.drop p)).1 < s.length := by omega
      have e : litF ((s.take (p + (litF (s.drop p)).1)).drop p) = litF (s.drop p) := litF_ag rfl (Ag.take s _ _ (by omega) (Nat.le_refl _)).drop
      show numberF (s.take (p + (litF (s.drop p)).1)) p = _
      unfold numberF
      rw [e, if_neg hb, len_take hlt, if_pos (Nat.le_refl _)]
theorem textF_tr (s : List UInt8) : ∀ (k : Nat) (out : List UInt8) (p e p' : Nat), textF s k out p = some (.err e p') → Cut s p e p' (fun t => textF t k out p = some (.err 3 p'))
  | 0, out, p, e, p', h => by simp [textF] at h
  | k + 1, out, p, e, p', h => by
    cases hc : s[p]? with
    | none => rw [textF_short _ _ _ _ hc] at h; injection h with h; injection h with h1 h2; exact .inl ⟨h1.symm, h2.symm⟩
    | some c =>
      have hlt := (List.getElem?_eq_some_iff.1 hc).1
      have here : ∀ e, (e ≠ 3 ∧ e ≠ 0) → Cut s p e p (fun t => textF t (k + 1) out p = some (.err 3 p)) := fun e he =>
        .inr ⟨he, Nat.le_refl _, hlt, by dsimp only; rw [textF_short _ _ _ _ (none_take hlt (Nat.le_refl _)), len_take hlt]⟩
      by_cases h34 : c = 34
      · rw [textF_end _ _ _ _ _ hc h34] at h; injection h with h; cases h
      · by_cases h32 : c.toNat < 32
        · rw [textF_low _ _ _ _ _ hc h32] at h
          injection h with h; injection h with h1 h2
          subst h1; subst h2
          exact here _ (by decide)
        · by_cases h92 : c = 92
          · rw [textF_esc _ _ _ _ _ hc h92] at h
            cases hes : escF s p with
            | err e1 q1 =>
              rw [hes] at h
              simp only at h
              injection h with h; injection h with h1 h2
              subst h1; subst h2
              rcases escF_tr hlt hes with hl | ⟨k1, k2, k3, k4⟩
              · exact .inl hl
              · by_cases hq : q1 = p
                · subst hq; exact here _ k1
                · refine .inr ⟨k1, k2, k3, ?_⟩
                  show textF (s.take q1) (k + 1) out p = _
                  rw [textF_esc _ _ _ _ _ (by rw [at_take (by omega)]; exact hc) h92, k4]
            | val r q1 =>
              rw [hes] at h
              have hv := escF_val _ _ _ _ hes
              refine (textF_tr s k _ _ _ _ h).imp (by omega) fun t k1 k2 ht hg => ?_
              rw [textF_esc _ _ _ _ _ (by rw [ht, at_take (by omega)]; exact hc) h92, escF_ag hes (ht ▸ Ag.take s p' q1 (by omega) k1)]
              exact hg
          · by_cases h128 : c.toNat < 128
            · rw [textF_ascii _ _ _ _ _ hc h34 h32 h92 h128] at h
              refine (textF_tr s k _ _ _ _ h).imp (by omega) fun t k1 k2 ht hg => ?_
              rw [textF_ascii _ _ _ _ _ (by rw [ht, at_take (by omega)]; exact hc) h34 h32 h92 h128]
              exact hg
            · rw [textF_rune _ _ _ _ _ hc h128] at h
              split at h
              · split at h
                · injection h with h; injection h with h1 h2
                  subst h1; subst h2
                  exact here _ (by decide)
                · injection h with h; injection h with h1 h2
                  exact .inl ⟨h1.symm, h2.symm⟩
              · rename_i hv
                have hsz : (ByteArray.mk (s.drop p).toArray).size = s.length - p := by show (s.drop p).toArray.size = _; simp
                have hw := dec_width ⟨(s.drop p).toArray⟩ (by omega)
                refine (textF_tr s k _ _ _ _ h).imp (by omega) fun t k1 k2 ht hg => ?_
                have ha : Ag s t (p + (decodeGo ⟨(s.drop p).toArray⟩).2) := ht ▸ Ag.take s p' _ (by omega) k1
                rw [textF_rune _ _ _ _ _ (by rw [ht, at_take (by omega)]; exact hc) h128, decG_ag hlt ha (Nat.le_refl _) hv, if_neg hv, ha.takeEq]
                exact hg
section
variable {α : Type}
theorem sevL_tr {s : List UInt8} {en : UInt8} {one : List UInt8 → α → Nat → Option (Out α)} (hv : ∀ a q a' q', q ≤ s.length → one s a q = some (.val a' q') → q < q' ∧ q' ≤ s.length) (ho : ∀ t a q a' q', q ≤ s.length → one s a q = some (.val a' q') → Ag s t q' → one t a q = some (.val a' q'))
    (he : ∀ a q e p', q ≤ s.length → one s a q = some (.err e p') → Cut s q e p' (fun t => one t a q = some (.err 3 p'))) :
    ∀ (k : Nat) (a : α) (q e p' : Nat), q ≤ s.length → sevL (one s) s en k a q = some (.err e p') → Cut s q e p' (fun t => sevL (one t) t en k a q = some (.err 3 p'))
  | 0, a, q, e, p', hq, h => by simp [sevL] at h
  | k + 1, a, q, e, p', hq, h => by
    rcases sevL_item _ _ _ _ _ _ _ h with ⟨e1, p1, h1, h2⟩ | ⟨b, q1, h1, h2⟩
    · injection h2 with ha hb
      subst ha; subst hb
      refine (he _ _ _ _ hq h1).imp (Nat.le_refl _) fun t k1 k2 ht hg => ?_
      unfold sevL
      rw [hg]
    · obtain ⟨g1, g2⟩ := hv _ _ _ _ hq h1
      have g3 := blanks_ge s q1
      have go : ∀ n, n < s.length → blanksF s q1 ≤ n → one (s.take n) a q = some (.val b q1) ∧ blanksF (s.take n) q1 = blanksF s q1 := fun n hn hb =>
        ⟨ho _ _ _ _ _ hq h1 (Ag.take s n q1 (by omega) (by omega)), blanks_agree rfl (Ag.take s n _ (by omega) hb)⟩
      rcases h2 with ⟨_, h2⟩ | ⟨c, hc, h2⟩
      · injection h2 with ha hb
        exact .inl ⟨ha, hb⟩
      · have hlt := (List.getElem?_eq_some_iff.1 hc).1
        rcases h2 with ⟨_, h2⟩ | ⟨hne, h44, h2⟩ | ⟨hne, h44, h2⟩
        · cases h2
        · have g5 := blanks_le s (blanksF s q1 + 1) (by omega)
          have g6 := blanks_ge s (blanksF s q1 + 1)
          refine (sevL_tr hv ho he k _ _ _ _ g5 h2).imp (by omega) fun t k1 k2 ht hg => ?_
          obtain ⟨z1, z2⟩ := go p' (by omega) (by omega)
          subst ht
          unfold sevL
          rw [z1]
          simp only [z2, at_take (show blanksF s q1 < p' by omega), hc, if_neg hne, if_pos h44]
          rw [blanks_agree (s := s) (p := blanksF s q1 + 1) rfl (Ag.take s p' _ (by omega) k1)]
          exact hg
        · injection h2 with ha hb
          subst ha; subst hb
          obtain ⟨z1, z2⟩ := go _ hlt (Nat.le_refl _)
          refine .inr ⟨by decide, by omega, hlt, ?_⟩
          show sevL (one (s.take (blanksF s q1))) (s.take (blanksF s q1)) en (k + 1) a q = _
          unfold sevL
          rw [z1]
          simp only [z2, none_take hlt (Nat.le_refl _), len_take hlt]
theorem sevF_tr {s : List UInt8} {en : UInt8} {one : List UInt8 → α → Nat → Option (Out α)} (hv : ∀ a q a' q', q ≤ s.length → one s a q = some (.val a' q') → q < q' ∧ q' ≤ s.length) (ho : ∀ t a q a' q', q ≤ s.length → one s a q = some (.val a' q') → Ag s t q' → one t a q = some (.val a' q'))
    (he : ∀ a q e p', q ≤ s.length → one s a q = some (.err e p') → Cut s q e p' (fun t => one t a q = some (.err 3 p'))) (k : Nat) (a : α) (p e p' : Nat) (hp : p < s.length) (h : sevF (one s) s en k a p = some (.err e p')) : Cut s (p + 1) e p' (fun t => sevF (one t) t en k a p = some (.err 3 p')) := by
  unfold sevF at h
  have g5 := blanks_le s (p + 1) (by omega)
  have g6 := blanks_ge s (p + 1)
  cases hc : s[blanksF s (p + 1)]? with
  | none => rw [hc] at h; injection h with h; injection h with h1 h2; exact .inl ⟨h1.symm, h2.symm⟩
  | some c =>
    have hlt := (List.getElem?_eq_some_iff.1 hc).1
    rw [hc] at h
    simp only at h
    split at h
    · injection h with h; cases h
    · rename_i hne
      rcases sevL_tr hv ho he k _ _ _ _ g5 h with hl | ⟨k1, k2, k3, k4⟩
      · exact .inl hl
      · refine .inr ⟨k1, by omega, k3, ?_⟩
        show sevF (one (s.take p')) (s.take p') en k a p = _
        unfold sevF
        have z := blanks_agree (s := s) (p := p + 1) rfl (Ag.take s p' _ (by omega) k2)
        rw [z]
        by_cases hb : blanksF s (p + 1) < p'
        · rw [at_take hb, hc]
          simp only [if_neg hne]
          exact k4
        · rw [none_take k3 (by omega), len_take k3]
end
theorem omap_err {α β : Type} (f : α → β) {x : Option (Out α)} {e p : Nat} (h : x.map (Out.map f) = some (.err e p)) : x = some (.err e p) := by
  cases x with
  | none => cases h
  | some o => injection h with h; rw [map_err f o e p h]
theorem Cut.omap {α β : Type} (f : α → β) {s : List UInt8} {p e p' : Nat} {x : Option (Out α)} {y : List UInt8 → Option (Out α)} (hx : x.map (Out.map f) = some (.err e p')) (h : x = some (.err e p') → Cut s p e p' (fun t => y t = some (.err 3 p'))) : Cut s p e p' (fun t => (y t).map (Out.map f) = some (.err 3 p')) :=
  (h (omap_err f hx)).imp (Nat.le_refl _) fun t _ _ _ hg => by rw [hg]; rfl
theorem oneM_tr {s : List UInt8} {v : List UInt8 → Nat → Option (Out J)} (he : ∀ q e p', q ≤ s.length → v s q = some (.err e p') → Cut s q e p' (fun t => v t q = some (.err 3 p')))
    (k : Nat) (a : List ByteArray × List J) (q e p' : Nat) (h : oneM (v s) s k a q = some (.err e p')) : Cut s q e p' (fun t => oneM (v t) t k a q = some (.err 3 p')) := by
  unfold oneM at h
  cases hc : s[q]? with
  | none => rw [hc] at h; injection h with h; injection h with h1 h2; exact .inl ⟨h1.symm, h2.symm⟩
  | some c =>
    have hlt := (List.getElem?_eq_some_iff.1 hc).1
    have here : ∀ e, (e ≠ 3 ∧ e ≠ 0) → Cut s q e q (fun t => oneM (v t) t k a q = some (.err 3 q)) := fun e he =>
      .inr ⟨he, Nat.le_refl _, hlt, by dsimp only; unfold oneM; rw [none_take hlt (Nat.le_refl _), len_take hlt]⟩
    rw [hc] at h
    simp only at h
    split at h
    · rename_i h34
      have go : ∀ t : List UInt8, t[q]? = some c → ∀ o, (match textF t k [] (q + 1) with
          | none => none
          | some (.err e p) => some (.err e p)
          | some (.val nm q1) =>
            if nm ∈ a.1.map (fun b => b.data.toList) then some (.err 45 q)
            else match t[blanksF t q1]? with
              | none => some (.err 3 t.length)
              | some c =>
                if c = 58 then (v t (blanksF t (blanksF t q1 + 1))).map (Out.map fun x => (a.1 ++ [bsJ nm], a.2 ++ [x]))
                else some (.err 40 (blanksF t q1))) = o → oneM (v t) t k a q = o := by
        intro t ht o ho
        rw [← ho]
        unfold oneM
        rw [ht]
        simp only [if_pos h34]
        rfl
      cases ht : textF s k [] (q + 1) with
      | none => rw [ht] at h; cases h
      | some o1 =>
        rw [ht] at h
        cases o1 with
        | err e1 p1 =>
          simp only at h
          injection h with h; injection h with h1 h2
          subst h1; subst h2
          refine (textF_tr s _ _ _ _ _ ht).imp (by omega) fun t k1 k2 ht' hg => ?_
          refine go t (by rw [ht', at_take (by omega)]; exact hc) _ ?_
          rw [hg]
        | val nm q1 =>
          simp only at h
          have hv1 := textF_val _ _ _ _ _ _ ht
          have g3 := blanks_ge s q1
          split at h
          · injection h with h; injection h with h1 h2
            subst h1; subst h2
            exact here _ (by decide)
          · rename_i hm
            cases hc2 : s[blanksF s q1]? with
            | none => rw [hc2] at h; injection h with h; injection h with h1 h2; exact .inl ⟨h1.symm, h2.symm⟩
            | some c2 =>
              have hlt2 := (List.getElem?_eq_some_iff.1 hc2).1
              rw [hc2] at h
              simp only at h
              split at h
              · rename_i h58
                have g5 := blanks_le s (blanksF s q1 + 1) (by omega)
                have g6 := blanks_ge s (blanksF s q1 + 1)
                refine (Cut.omap _ (y := fun t => v t (blanksF s (blanksF s q1 + 1))) h (fun hh => he _ _ _ g5 hh)).imp (by omega) fun t k1 k2 ht' hg => ?_
                have hA : ∀ n, n ≤ p' → Ag s t n := fun n hn => ht' ▸ Ag.take s p' n (by omega) hn
                refine go t (by rw [ht', at_take (by omega)]; exact hc) _ ?_
                rw [textF_ag k _ _ _ _ ht (hA _ (by omega))]
                simp only [if_neg hm]
                rw [blanks_agree (s := s) (t := t) (p := q1) rfl (hA _ (by omega)), (hA (blanksF s q1 + 1) (by omega)).at_ _ (Nat.lt_succ_self _), hc2]
                simp only [if_pos h58]
                rw [blanks_agree (s := s) (t := t) (p := blanksF s q1 + 1) rfl (hA _ (by omega))]
                exact hg
              · injection h with h; injection h with h1 h2
                subst h1; subst h2
                refine .inr ⟨by decide, by omega, hlt2, ?_⟩
                have hA : ∀ n, n ≤ blanksF s q1 → Ag s (s.take (blanksF s q1)) n := fun n hn => Ag.take s _ n (by omega) hn
                refine go (s.take (blanksF s q1)) (by rw [at_take (by omega)]; exact hc) _ ?_
                rw [textF_ag k _ _ _ _ ht (hA _ (by omega))]
                simp only [if_neg hm]
                rw [blanks_agree (s := s) (p := q1) rfl (hA _ (by omega)), none_take hlt2 (Nat.le_refl _), len_take hlt2]
    · injection h with h; injection h with h1 h2
      subst h1; subst h2
      exact here _ (by decide)
theorem valueF_tr (s : List UInt8) (k : Nat) : ∀ (r p e p' : Nat), p ≤ s.length → valueF s k r p = some (.err e p') → Cut s p e p' (fun t => valueF t k r p = some (.err 3 p'))
  | r, p, e, p', hp, h => by
    cases hc : s[p]? with
    | none => unfold valueF at h; rw [hc] at h; injection h with h; injection h with h1 h2; exact .inl ⟨h1.symm, h2.symm⟩
    | some c =>
      have hlt := (List.getElem?_eq_some_iff.1 hc).1
      have here : ∀ e, (e ≠ 3 ∧ e ≠ 0) → Cut s p e p (fun t => valueF t k r p = some (.err 3 p)) := fun e he =>
        .inr ⟨he, Nat.le_refl _, hlt, by dsimp only; unfold valueF; rw [none_take hlt (Nat.le_refl _), len_take hlt]⟩
      by_cases hpp : p' = p ∧ (e ≠ 3 ∧ e ≠ 0)
      · rw [hpp.1]; exact here _ hpp.2
      · have lift : ∀ (G : List UInt8 → Prop), (∀ t, t[p]? = some c → G t → valueF t k r p = some (.err 3 p')) → Cut s p e p' G → Cut s p e p' (fun t => valueF t k r p = some (.err 3 p')) := fun G hG hcut => by
          refine Or.imp_right ?_ hcut
          rintro ⟨k1, k2, k3, k4⟩
          exact ⟨k1, k2, k3, hG _ (by rw [at_take (by have : p' ≠ p := fun hh => hpp ⟨hh, k1⟩; omega)]; exact hc) k4⟩
        unfold valueF at h
        rw [hc] at h
        simp only at h
        split at h
        · rename_i h1
          injection h with h
          refine lift _ (fun t ht hg => ?_) (wordF_tr s _ _ _ _ (map_err _ _ _ _ h))
          unfold valueF; rw [ht]; simp only [if_pos h1, hg]; rfl
        · rename_i h1; split at h
          · rename_i h2
            injection h with h
            refine lift _ (fun t ht hg => ?_) (wordF_tr s _ _ _ _ (map_err _ _ _ _ h))
            unfold valueF; rw [ht]; simp only [if_neg h1, if_pos h2, hg]; rfl
          · rename_i h2; split at h
            · rename_i h3
              injection h with h
              refine lift _ (fun t ht hg => ?_) (wordF_tr s _ _ _ _ (map_err _ _ _ _ h))
              unfold valueF; rw [ht]; simp only [if_neg h1, if_neg h2, if_pos h3, hg]; rfl
            · rename_i h3; split at h
              · rename_i h4
                injection h with h
                refine lift _ (fun t ht hg => ?_) (numberF_tr (map_err _ _ _ _ h))
                unfold valueF; rw [ht]; simp only [if_neg h1, if_neg h2, if_neg h3, if_pos h4, hg]; rfl
              · rename_i h4; split at h
                · rename_i h5
                  refine lift _ (fun t ht hg => ?_) ((textF_tr s _ _ _ _ _ (omap_err _ h)).imp (Nat.le_succ p) fun t _ _ _ hg => hg)
                  unfold valueF; rw [ht]; simp only [if_neg h1, if_neg h2, if_neg h3, if_neg h4, if_pos h5, hg]; rfl
                · rename_i h5; split at h
                  · rename_i h6
                    cases r with
                    | zero => injection h with h; injection h with ha hb; subst ha; subst hb; exact here _ (by decide)
                    | succ r =>
                      have hv1 := fun (q : Nat) (j : J) (q' : Nat) (hq : q ≤ s.length) (h : valueF s k r q = some (.val j q')) => valueF_val s k r q q' j hq h
                      simp only at h
                      split at h
                      · rename_i h7
                        refine lift _ (fun t ht hg => ?_) ((sevF_tr (one := fun t => oneI (valueF t k r)) (fun a q a' q' hq h => oneI_val s _ hv1 a q a' q' hq h) (fun t a q a' q' hq h ha => omap_ag _ (fun j hj => valueF_ag k r q _ j hq hj ha) h) (fun a q e p' hq h => Cut.omap _ h (fun hh => valueF_tr s k r q e p' hq hh)) k _ p e p' hlt (omap_err _ h)).imp (Nat.le_succ p) fun t _ _ _ hg => hg)
                        unfold valueF; rw [ht]; simp only [if_neg h1, if_neg h2, if_neg h3, if_neg h4, if_neg h5, if_pos h6, if_pos h7, hg]; rfl
                      · rename_i h7
                        refine lift _ (fun t ht hg => ?_) ((sevF_tr (one := fun t => oneM (valueF t k r) t k) (fun a q a' q' hq h => oneM_val s k _ hv1 a q a' q' hq h) (fun t a q a' q' hq h ha => oneM_ag hv1 (fun q j q' hq h ha => valueF_ag k r q q' j hq h ha) k a q a' q' hq h ha) (fun a q e p' hq h => oneM_tr (v := fun t => valueF t k r) (fun q e p' hq hh => valueF_tr s k r q e p' hq hh) k a q e p' h) k _ p e p' hlt (omap_err _ h)).imp (Nat.le_succ p) fun t _ _ _ hg => hg)
                        unfold valueF; rw [ht]; simp only [if_neg h1, if_neg h2, if_neg h3, if_neg h4, if_neg h5, if_pos h6, if_neg h7, hg]; rfl
                  · injection h with h; injection h with ha hb; subst ha; subst hb; exact here _ (by decide)
end Go.Proofs.YtaalajhmfdcalaaDoor.X
namespace Go.Proofs.YtaalajhmfdcalaaDoor.X
open Go.RowKit Go.Lib Go.Proofs.YtaalajhmfdcalaaDoorW.PrintWords
theorem putF_ok {free : Bool} {st : St} {s : List UInt8} (h : (putF free st s).e = 0) : st.e = 0 ∧ (putF free st s).out = st.out ++ s := by
  unfold putF at h ⊢
  by_cases he : st.e ≠ 0
  · rw [if_pos he] at h; exact absurd h he
  · rw [if_neg he] at h ⊢
    split at h
    · cases h
    · rename_i h2; rw [if_neg h2]; exact ⟨by omega, rfl⟩
theorem putsF_ok {free : Bool} : ∀ (l : List (List UInt8)) {st : St}, (putsF free st l).e = 0 → st.e = 0 ∧ (putsF free st l).out = st.out ++ l.flatten
  | [], st, h => ⟨h, by simp [putsF]⟩
  | a :: l, st, h => by
    rw [putsF_cons] at h ⊢
    obtain ⟨h1, h2⟩ := putsF_ok l h
    obtain ⟨h3, h4⟩ := putF_ok h1
    exact ⟨h3, by rw [h2, h4]; simp⟩
theorem failF_no (st : St) (e : Nat) (h : e ≠ 0) : ¬ (failF st e).e = 0 := failF_e st e h
def qB (s : ByteArray) : List UInt8 := (quoteB s).flatten
def encI (enc : J → List UInt8) : Nat → List J → List UInt8
  | _, [] => []
  | i, y :: l => (if i = 0 then [] else [44]) ++ (enc y ++ encI enc (i + 1) l)
def encM (enc : J → List UInt8) : Nat → List ByteArray → List J → List UInt8
  | i, nm :: ns, y :: ys => (if i = 0 then [] else [44]) ++ (qB nm ++ (58 :: (enc y ++ encM enc (i + 1) ns ys)))
  | _, _, _ => []
def encB (v : J) : List UInt8 := if v.f0 = 3 then v.f1.data.toList else if v.f0 = 4 then qB v.f1 else (wordB v.f0.toNat).data.toList
def encJ : Nat → J → List UInt8
  | 0, v => encB v
  | r + 1, v => if v.f0 = 5 then 91 :: (encI (encJ r) 0 v.f3 ++ [93]) else if v.f0 = 6 then 123 :: (encM (encJ r) 0 v.f2 v.f3 ++ [125]) else encB v
/-- A value that is written: r brackets may still be opened. -/
def OKJ : Nat → J → Prop
  | 0, v => nodeOK v.f0 v.f1 v.f2.length v.f3.length = true ∧ ¬ v.f0 = 5 ∧ ¬ v.f0 = 6
  | r + 1, v => nodeOK v.f0 v.f1 v.f2.length v.f3.length = true ∧ ((v.f0 = 5 ∨ v.f0 = 6) → ∀ y, y ∈ v.f3 → OKJ r y) ∧ (v.f0 = 6 → (∀ s, s ∈ v.f2 → validD s.data.toList = true) ∧ (v.f2.map (fun b => b.data.toList)).Nodup)
/-- What a step writes, if it comes to no fault. -/
def Wok (one : J → St → St) (P : J → Prop) (enc : J → List UInt8) : Prop := ∀ y st, (one y st).e = 0 → st.e = 0 ∧ P y ∧ (one y st).out = st.out ++ enc y
theorem comma_ok {free : Bool} {i : Nat} {st : St} (h : (if i = 0 then st else putF free st [44]).e = 0) : st.e = 0 ∧ (if i = 0 then st else putF free st [44]).out = st.out ++ (if i = 0 then [] else [44]) := by
  split at h
  · rename_i hi; rw [if_pos hi, if_pos hi]; exact ⟨h, by simp⟩
  · rename_i hi; rw [if_neg hi, if_neg hi]; exact putF_ok h
theorem itemsW_ok {free : Bool} {one : J → St → St} {P : J → Prop} {enc : J → List UInt8} (ho : Wok one P enc) : ∀ (l : List J) (i : Nat) (st : St), (itemsW free one i l st).e = 0 → st.e = 0 ∧ (∀ y, y ∈ l → P y) ∧ (itemsW free one i l st).out = st.out ++ encI enc i l
  | [], i, st, h => ⟨h, (fun y hy => by cases hy), by simp [itemsW, encI]⟩
  | y :: l, i, st, h => by
    rw [itemsW] at h ⊢
    obtain ⟨h1, h2, h3⟩ := itemsW_ok ho l (i + 1) _ h
    obtain ⟨h4, h5, h6⟩ := ho _ _ h1
    obtain ⟨h7, h8⟩ := comma_ok h4
    refine ⟨h7, fun z hz => ?_, ?_⟩
    · rcases List.mem_cons.1 hz with rfl | hz
      · exact h5
      · exact h2 z hz
    · rw [h3, h6, h8, encI]; simp [List.append_assoc]
theorem membersW_ok {free : Bool} {one : J → St → St} {P : J → Prop} {enc : J → List UInt8} (ho : Wok one P enc) : ∀ (ns : List ByteArray) (ys : List J) (seen : List ByteArray) (i : Nat) (st : St), ns.length = ys.length → (membersW free one seen i ns ys st).e = 0 →
    st.e = 0 ∧ (∀ y, y ∈ ys → P y) ∧ (∀ s, s ∈ ns → validD s.data.toList = true) ∧ ((seen.map (fun b => b.data.toList)).Nodup → ((seen ++ ns).map (fun b => b.data.toList)).Nodup) ∧ (membersW free one seen i ns ys st).out = st.out ++ encM enc i ns ys
  | [], [], seen, i, st, hl, h => ⟨by simpa [membersW] using h, (fun y hy => by cases hy), (fun s hs => by cases hs), (fun hn => by simpa using hn), by simp [membersW, encM]⟩
  | [], _ :: _, seen, i, st, hl, h => by simp at hl
  | _ :: _, [], seen, i, st, hl, h => by simp at hl
  | nm :: ns, y :: ys, seen, i, st, hl, h => by
    rw [membersW] at h ⊢
    try simp only at h ⊢
    by_cases h1 : (if i = 0 then st else putF free st [44]).e ≠ 0
    · rw [if_pos h1] at h; exact absurd h h1
    · rw [if_neg h1] at h ⊢
      by_cases h2 : validD nm.data.toList = false
      · rw [if_pos h2] at h; exact absurd h (failF_no _ _ (by decide))
      · rw [if_neg h2] at h ⊢
        by_cases h3 : nm.data.toList ∈ seen.map (fun b => b.data.toList)
        · rw [if_pos h3] at h; exact absurd h (failF_no _ _ (by decide))
        · rw [if_neg h3] at h ⊢
          obtain ⟨g1, g2, g3, g4, g5⟩ := membersW_ok ho ns ys _ _ _ (by simpa using hl) h
          obtain ⟨g6, g7, g8⟩ := ho _ _ g1
          obtain ⟨g9, g10⟩ := putF_ok g6
          obtain ⟨g11, g12⟩ := putsF_ok _ g9
          obtain ⟨g13, g14⟩ := comma_ok g11
          refine ⟨g13, fun z hz => ?_, fun z hz => ?_, fun hn => ?_, ?_⟩
          · rcases List.mem_cons.1 hz with rfl | hz
            · exact g7
            · exact g2 z hz
          · rcases List.mem_cons.1 hz with rfl | hz
            · simpa using h2
            · exact g3 z hz
          · have : ((seen ++ [nm]).map (fun b => b.data.toList)).Nodup := by
              rw [List.map_append, List.nodup_append]
              exact ⟨hn, by simp, fun a ha b hb => by simp at hb; rw [hb]; rintro rfl; exact h3 ha⟩
            have := g4 this
            simpa using this
          · rw [g5, g8, g10, g12, g14, encM, qB]; simp [List.append_assoc]
theorem valW_ok (free : Bool) : ∀ (r : Nat), Wok (valW free false r) (OKJ r) (encJ r)
  | 0, v, st, h => by
    by_cases he : st.e ≠ 0
    · rw [valW_bad _ _ _ _ _ he] at h; exact absurd h he
    · have he' : st.e = 0 := by omega
      rw [valW, if_neg he] at h ⊢
      by_cases h56 : v.f0 = 5 ∨ v.f0 = 6
      · rw [if_pos h56] at h; cases h
      · rw [if_neg h56] at h ⊢
        by_cases hn : nodeOK v.f0 v.f1 v.f2.length v.f3.length = false
        · rw [if_pos hn] at h; cases h
        · rw [if_neg hn] at h ⊢
          refine ⟨he', ⟨by simpa using hn, fun hh => h56 (.inl hh), fun hh => h56 (.inr hh)⟩, ?_⟩
          rw [encJ, encB]
          by_cases h3 : v.f0 = 3
          · rw [if_pos h3] at h ⊢; rw [if_pos h3]; exact (putF_ok h).2
          · rw [if_neg h3] at h ⊢
            rw [if_neg h3]
            by_cases h4 : v.f0 = 4
            · rw [if_pos h4] at h ⊢; rw [if_pos h4]; exact (putsF_ok _ h).2
            · rw [if_neg h4] at h ⊢; rw [if_neg h4]; exact (putF_ok h).2
  | r + 1, v, st, h => by
    by_cases he : st.e ≠ 0
    · rw [valW_bad _ _ _ _ _ he] at h; exact absurd h he
    · have he' : st.e = 0 := by omega
      have IH := valW_ok free r
      rw [valW, if_neg he] at h ⊢
      by_cases hn : nodeOK v.f0 v.f1 v.f2.length v.f3.length = false
      · rw [if_pos hn] at h; cases h
      · rw [if_neg hn] at h ⊢
        have hn' : nodeOK v.f0 v.f1 v.f2.length v.f3.length = true := by simpa using hn
        rw [encJ]
        by_cases h5 : v.f0 = 5
        · rw [if_pos h5] at h ⊢
          rw [if_pos h5]
          obtain ⟨g1, g2⟩ := putF_ok h
          obtain ⟨g3, g4, g5⟩ := itemsW_ok IH _ _ _ g1
          obtain ⟨g6, g7⟩ := putF_ok g3
          exact ⟨he', ⟨hn', fun _ => g4, fun hh => by rw [h5] at hh; cases hh⟩, by rw [g2, g5, g7]; simp⟩
        · rw [if_neg h5] at h ⊢
          rw [if_neg h5]
          by_cases h6 : v.f0 = 6
          · rw [if_pos h6] at h ⊢
            rw [if_pos h6]
            obtain ⟨g1, g2⟩ := putF_ok h
            have hl : v.f2.length = v.f3.length := by
              rw [h6] at hn'
              unfold nodeOK at hn'
              simp at hn'
              exact hn'.2
            obtain ⟨g3, g4, g4', g4'', g5⟩ := membersW_ok IH _ _ _ _ _ (by simpa [namesOf, itemsOf] using hl) g1
            obtain ⟨g6, g7⟩ := putF_ok g3
            exact ⟨he', ⟨hn', fun _ => g4, fun _ => ⟨g4', by simpa [namesOf] using g4'' (by simp)⟩⟩, by rw [g2, g5, g7]; simp [namesOf, itemsOf]⟩
          · rw [if_neg h6] at h ⊢
            rw [if_neg h6]
            refine ⟨he', ⟨hn', fun hh => absurd hh (by rintro (hh | hh); exact h5 hh; exact h6 hh), fun hh => absurd hh h6⟩, ?_⟩
            rw [encB]
            by_cases h3 : v.f0 = 3
            · rw [if_pos h3] at h ⊢; rw [if_pos h3]; exact (putF_ok h).2
            · rw [if_neg h3] at h ⊢
              rw [if_neg h3]
              by_cases h4 : v.f0 = 4
              · rw [if_pos h4] at h ⊢; rw [if_pos h4]; exact (putsF_ok _ h).2
              · rw [if_neg h4] at h ⊢; rw [if_neg h4]; exact (putF_ok h).2
end Go.Proofs.YtaalajhmfdcalaaDoor.X
namespace Go.Proofs.YtaalajhmfdcalaaDoor.X
open Go.RowKit Go.Lib Go.Proofs.YtaalajhmfdcalaaDoorW.PrintWords
/-- At p stands l. -/
def Has (s : List UInt8) (p : Nat) (l : List UInt8) : Prop := ∃ post, s.drop p = l ++ post
theorem Has.at {s l : List UInt8} {p i : Nat} (h : Has s p l) (hi : i < l.length) : s[p + i]? = l[i]? := by
  obtain ⟨post, h⟩ := h
  rw [← List.getElem?_drop, h, List.getElem?_append_left hi]
theorem Has.left {s a b : List UInt8} {p : Nat} (h : Has s p (a ++ b)) : Has s p a := by
  obtain ⟨post, h⟩ := h
  exact ⟨b ++ post, by rw [h, List.append_assoc]⟩
theorem Has.right {s a b : List UInt8} {p : Nat} (h : Has s p (a ++ b)) : Has s (p + a.length) b := by
  obtain ⟨post, h⟩ := h
  exact ⟨post, by rw [← List.drop_drop, h, List.append_assoc, List.drop_left]⟩
theorem Has.cons {s l : List UInt8} {p : Nat} {c : UInt8} (h : Has s p (c :: l)) : s[p]? = some c ∧ Has s (p + 1) l :=
  ⟨by have := h.at (i := 0) (by simp); simpa using this, Has.right (a := [c]) h⟩
theorem Has.len {s l : List UInt8} {p : Nat} (h : Has s p l) (hl : 0 < l.length) : p + l.length ≤ s.length := by
  obtain ⟨post, h⟩ := h
  have := congrArg List.length h
  rw [List.length_drop, List.length_append] at this
  omega
def Stop (s : List UInt8) (q : Nat) : Prop := s[q]? = none ∨ ∃ z : UInt8, z ∈ ([0, 44, 93, 125] : List UInt8) ∧ s[q]? = some z
theorem Stop.of {s : List UInt8} {q : Nat} {z : UInt8} (h : s[q]? = some z) (hz : z ∈ ([0, 44, 93, 125] : List UInt8)) : Stop s q := .inr ⟨z, hz, h⟩
theorem Stop.blank {s : List UInt8} {q : Nat} (h : Stop s q) : blanksF s q = q := by
  refine blanks_stop s q fun c hc => ?_
  rcases h with h | ⟨z, hz, h⟩
  · rw [h] at hc; cases hc
  · rw [h] at hc
    injection hc with hc
    subst hc
    have key : ∀ z : UInt8, z ∈ ([0, 44, 93, 125] : List UInt8) → isBl z = false := by decide
    exact key z hz
theorem number_back {s l : List UInt8} {p : Nat} (h : Has s p l) (hs : Stop s (p + l.length)) (hl : litF l = (l.length, true)) : numberF s p = .val l (p + l.length) := by
  have ha : Ag l (s.drop p) l.length := ⟨Nat.le_refl _, fun i hi => by rw [List.getElem?_drop]; exact h.at hi, by
    rw [List.getElem?_drop]
    rcases hs with hs | hs
    · exact .inl hs
    · exact .inr (.inr hs)⟩
  unfold numberF
  rw [litF_ag hl ha, if_pos rfl]
  obtain ⟨post, h⟩ := h
  rw [h]
  simp
theorem word_back {s : List UInt8} : ∀ (w : List UInt8) (p : Nat), Has s p w → wordF s w p = .val () (p + w.length)
  | [], p, h => rfl
  | c :: w, p, h => by
    obtain ⟨h1, h2⟩ := h.cons
    rw [wordF_on _ _ _ _ h1, word_back w (p + 1) h2, List.length_cons]
    congr 1
    omega
theorem hexF_hexD (n : Nat) : hexF (hexD n) = some (n % 16) := by
  have h : ∀ m : Fin 16, hexF (([48, 49, 50, 51, 52, 53, 54, 55, 56, 57, 97, 98, 99, 100, 101, 102] : List UInt8).getD m.val 48) = some m.val := by decide
  exact h ⟨n % 16, Nat.mod_lt _ (by decide)⟩
theorem four_back {s : List UInt8} {p c : Nat} (hc : c ≤ 65535) (h : Has s p [hexD (c / 4096), hexD (c / 256), hexD (c / 16), hexD c]) : fourF s 4 0 p = .val c (p + 4) := by
  obtain ⟨h0, h⟩ := h.cons
  obtain ⟨h1, h⟩ := h.cons
  obtain ⟨h2, h⟩ := h.cons
  obtain ⟨h3, h⟩ := h.cons
  rw [fourF_on _ _ _ _ _ _ h0 (hexF_hexD _), fourF_on _ _ _ _ _ _ h1 (hexF_hexD _), fourF_on _ _ _ _ _ _ h2 (hexF_hexD _), fourF_on _ _ _ _ _ _ h3 (hexF_hexD _)]
  show Out.val _ _ = Out.val _ _
  congr 1
  omega
theorem esc_short {s : List UInt8} {p x : Nat} {c : UInt8} (h : Has s p [92, c]) (hx : escdF c = some x) : escF s p = .val x (p + 2) := by
  obtain ⟨_, h⟩ := h.cons
  obtain ⟨h1, _⟩ := h.cons
  unfold escF
  rw [h1]
  simp only [hx]
theorem esc_unit {s : List UInt8} {p c : Nat} (hc : c ≤ 65535) (hv : ¬ (55296 ≤ c ∧ c ≤ 57343)) (h : Has s p (unitB c)) : escF s p = .val c (p + 6) := by
  obtain ⟨_, h⟩ := Has.cons h
  obtain ⟨h1, h⟩ := h.cons
  unfold escF
  rw [h1]
  have e : escdF 117 = none := by decide
  simp only [e, if_true]
  rw [four_back hc h]
  simp only
  rw [if_neg (by omega), if_neg (by omega)]
theorem unitB_length (c : Nat) : (unitB c).length = 6 := rfl
set_option maxRecDepth 10000 in
theorem esc_pair {s : List UInt8} {p c : Nat} (h0 : 65536 ≤ c) (hc : c ≤ 1114111) (h : Has s p (unitB (55296 + (c - 65536) / 1024) ++ unitB (56320 + (c - 65536) % 1024))) : escF s p = .val c (p + 12) := by
  have ha := h.left
  have hb := h.right
  rw [unitB_length] at hb
  obtain ⟨_, ha⟩ := Has.cons ha
  obtain ⟨h1, ha⟩ := ha.cons
  obtain ⟨b0, hb⟩ := Has.cons hb
  obtain ⟨b1, hb⟩ := hb.cons
  unfold escF
  rw [h1]
  have e : escdF 117 = none := by decide
  simp only [e, if_true]
  rw [four_back (by omega) ha]
  simp only
  rw [if_neg (by omega), if_pos (by omega)]
  rw [show p + 1 + 1 + 4 = p + 6 by omega, mustF_on _ _ _ _ _ b0, mustF_on _ _ _ _ _ b1]
  simp only [mustF]
  rw [show p + 6 + 1 + 1 = p + 8 by omega] at hb ⊢
  rw [four_back (by omega) hb]
  simp only
  rw [if_neg (by omega)]
  have e1 : 65536 + (55296 + (c - 65536) / 1024 - 55296) * 1024 + (56320 + (c - 65536) % 1024 - 56320) = c := by omega
  rw [e1]
theorem encode_small {c : Nat} (h : c ≤ 127) : encodeRune (c : Int) = [UInt8.ofNat c] := by
  unfold encodeRune
  rw [encodeRuneZ_one (by omega) (by omega)]
  simp
/-- A rune's piece of a quoted text. -/
theorem rune_back {s : List UInt8} {p c : Nat} (k : Nat) (out : List UInt8) (hc : c ≤ 1114111) (hv : ¬ (55296 ≤ c ∧ c ≤ 57343)) (h : Has s p (runeB c).flatten) : textF s (k + 1) out p = textF s k (out ++ encodeRune (c : Int)) (p + (runeB c).flatten.length) := by
  have short : ∀ x : UInt8, escdF x = some c → Has s p [92, x] → textF s (k + 1) out p = textF s k (out ++ encodeRune (c : Int)) (p + 2) := fun x hx hh => by
    rw [textF_esc _ _ _ _ _ hh.cons.1 rfl, esc_short hh hx]
  unfold runeB at h ⊢
  split at h
  · rename_i h1
    simp only [List.flatten_cons, List.flatten_nil, List.append_nil] at h
    rw [if_pos h1]
    refine short _ ?_ h
    rcases h1 with rfl | rfl <;> decide
  · rename_i h1
    rw [if_neg h1]
    split at h
    · rename_i h2; rw [if_pos h2]; subst h2; exact short 98 (by decide) h
    · rename_i h2; rw [if_neg h2]; split at h
      · rename_i h3; rw [if_pos h3]; subst h3; exact short 116 (by decide) h
      · rename_i h3; rw [if_neg h3]; split at h
        · rename_i h4; rw [if_pos h4]; subst h4; exact short 110 (by decide) h
        · rename_i h4; rw [if_neg h4]; split at h
          · rename_i h5; rw [if_pos h5]; subst h5; exact short 102 (by decide) h
          · rename_i h5; rw [if_neg h5]; split at h
            · rename_i h6; rw [if_pos h6]; subst h6; exact short 114 (by decide) h
            · rename_i h6; rw [if_neg h6]; split at h
              · rename_i h7
                rw [if_pos h7]
                have hh := (Has.cons h).1
                have e : (UInt8.ofNat c).toNat = c := by simp; omega
                rw [textF_ascii _ _ _ _ _ hh (fun hq => h1 (.inl (by rw [← e, hq]; rfl))) (by omega) (fun hq => h1 (.inr (by rw [← e, hq]; rfl))) (by omega), encode_small (by omega)]
                rfl
              · rename_i h7; rw [if_neg h7]; split at h
                · rename_i h8
                  rw [if_pos h8]
                  simp only [List.flatten_cons, List.flatten_nil, List.append_nil] at h ⊢
                  rw [textF_esc _ _ _ _ _ (Has.cons h.left).1 rfl, esc_pair (by omega) hc h]
                  rfl
                · rename_i h8
                  rw [if_neg h8]
                  simp only [List.flatten_cons, List.flatten_nil, List.append_nil] at h ⊢
                  rw [textF_esc _ _ _ _ _ (Has.cons h).1 rfl, esc_unit (by omega) hv h]
                  rfl
def qL : Nat → List UInt8 → List UInt8
  | 0, _ => []
  | n + 1, l => if l = [] then [] else (runeB (decodeL l).1).flatten ++ qL n (l.drop (decodeL l).2)
theorem decode_drop (s : ByteArray) (pos : Nat) (h : pos < s.size) : Utf8.decode s pos = decodeL (s.data.toList.drop pos) := by
  unfold decodeL
  have e : ∀ i, (ByteArray.mk (s.data.toList.drop pos).toArray).get! i = s.get! (pos + i) := fun i => by
    rw [get_list, List.getElem?_drop]
    exact (get_list s.data.toList (pos + i)).symm
  have es : (ByteArray.mk (s.data.toList.drop pos).toArray).size - 0 = s.size - pos := by
    show (s.data.toList.drop pos).toArray.size - 0 = _
    rw [List.size_toArray, List.length_drop, size_data]; rfl
  rw [decode_at s pos, decode_at ⟨(s.data.toList.drop pos).toArray⟩ 0, es, e 0, e (0 + 1), e (0 + 2), e (0 + 3)]
  simp
theorem quoteL_flat (s : ByteArray) : ∀ (k pos : Nat), (quoteL s k pos).flatten = qL k (s.data.toList.drop pos)
  | 0, pos => rfl
  | k + 1, pos => by
    by_cases h : pos < s.size
    · rw [quoteL_on s k pos h, List.flatten_append, quoteL_flat s k, qL, if_neg (by intro hh; have := congrArg List.length hh; rw [List.length_drop, size_data] at this; simp at this; omega), ← decode_drop s pos h, List.drop_drop]
    · rw [quoteL_end s (k + 1) pos h, qL, if_pos (by rw [List.drop_eq_nil_iff, size_data]; omega)]
      rfl
theorem decodeL_valid (l : List UInt8) : ¬ (55296 ≤ (decodeL l).1 ∧ (decodeL l).1 ≤ 57343) := by
  unfold decodeL
  rw [decode_at]
  generalize (ByteArray.mk l.toArray).get! 0 = b0
  unfold decodeN
  repeat' split
  all_goals (simp only; omega)
theorem text_back {s : List UInt8} : ∀ (n : Nat) (l out : List UInt8) (p : Nat), l.length ≤ n → validD l = true → Has s p (qL (n + 1) l ++ [34]) → textF s (n + 1) out p = some (.val (out ++ l) (p + (qL (n + 1) l).length + 1))
  | n, [], out, p, hn, hv, h => by
    have e : qL (n + 1) [] = [] := rfl
    rw [e] at h ⊢
    rw [textF_end _ _ _ _ _ (Has.cons h).1 rfl]
    simp
  | 0, c :: l, out, p, hn, hv, h => by simp at hn
  | n + 1, c :: l, out, p, hn, hv, h => by
    have hne : (c :: l) ≠ [] := by simp
    generalize hl : c :: l = m at *
    have e : qL (n + 1 + 1) m = (runeB (decodeL m).1).flatten ++ qL (n + 1) (m.drop (decodeL m).2) := by rw [qL, if_neg hne]
    rw [e, List.append_assoc] at h
    rw [validD_step m hne] at hv
    split at hv
    · cases hv
    · rename_i hd
      have hw := decodeL_width m
      rw [rune_back (n + 1) out (decodeL_rune m) (decodeL_valid m) h.left, encode_decode m hne hd, text_back n (m.drop (decodeL m).2) _ _ (by rw [List.length_drop]; omega) hv h.right]
      rw [e, List.length_append, List.append_assoc, List.take_append_drop]
      congr 2
      omega
theorem quote_eq (b : ByteArray) : qB b = 34 :: (qL (b.size + 1) b.data.toList ++ [34]) := by
  unfold qB quoteB
  simp only [List.flatten_cons, List.flatten_append, quoteL_flat, List.flatten_nil, List.drop_zero]
  rfl
theorem quoted_back {s : List UInt8} {b : ByteArray} {p k : Nat} (hv : validD b.data.toList = true) (h : Has s p (qB b)) (hk : s.length < k) : s[p]? = some 34 ∧ textF s k [] (p + 1) = some (.val b.data.toList (p + (qB b).length)) := by
  have hlen := h.len (by rw [quote_eq]; simp)
  rw [quote_eq] at h hlen ⊢
  obtain ⟨h1, h2⟩ := h.cons
  refine ⟨h1, ?_⟩
  have h3 := text_back b.size b.data.toList [] (p + 1) (by rw [size_data]; exact Nat.le_refl _) hv h2
  simp only [List.length_cons, List.length_append, List.length_nil] at hlen
  obtain ⟨o, ho⟩ := textF_total s k [] (p + 1) (by omega) (by omega)
  have h4 := textF_mono s (show b.size + 1 ≤ k + (b.size + 1) by omega) _ _ _ h3
  have h5 := textF_mono s (show k ≤ k + (b.size + 1) by omega) _ _ _ ho
  rw [ho, ← h5, h4]
  simp only [List.nil_append, List.length_cons, List.length_append, List.length_nil]
  congr 2
  omega
end Go.Proofs.YtaalajhmfdcalaaDoor.X
namespace Go.Proofs.YtaalajhmfdcalaaDoor.X
open Go.RowKit Go.Lib Go.Proofs.YtaalajhmfdcalaaDoorW.PrintWords
def Head (c : UInt8) : Prop := isBl c = false ∧ c ≠ 93 ∧ c ≠ 125
theorem bsJ_data (b : ByteArray) : bsJ b.data.toList = b := by
  apply ByteArray.ext
  simp [bsJ]
theorem litF_head {l : List UInt8} (h : (litF l).2 = true) : ∃ c t, l = c :: t ∧ (c = 45 ∨ isDg c = true) := by
  cases l with
  | nil => exact absurd h (by decide)
  | cons c t =>
    refine ⟨c, t, rfl, ?_⟩
    by_cases h1 : c = 45
    · exact .inl h1
    · refine .inr ?_
      cases hd : isDg c with
      | true => rfl
      | false =>
        exfalso
        unfold litF at h
        have e0 : ¬ (c :: t)[0]? = some 45 := fun hh => h1 (by simpa using hh)
        simp only [if_neg e0] at h
        by_cases h48 : (c :: t)[0]? = some 48
        · have : c = 48 := by simpa using h48
          rw [this] at hd
          exact absurd hd (by decide)
        · rw [if_neg h48] at h
          have : digsF ((c :: t).drop 0) = 0 := digs_stop _ 0 (fun d hh => by
            have : c = d := by simpa using hh
            rw [← this]; exact hd)
          rw [if_pos this] at h
          cases h
theorem dg_head {c : UInt8} (h : c = 45 ∨ isDg c = true) : Head c ∧ ¬ c = 110 ∧ ¬ c = 116 ∧ ¬ c = 102 := by
  have key : ∀ n : Fin 256, (UInt8.ofNat n.val = 45 ∨ isDg (UInt8.ofNat n.val) = true) → (isBl (UInt8.ofNat n.val) = false ∧ UInt8.ofNat n.val ≠ 93 ∧ UInt8.ofNat n.val ≠ 125) ∧ ¬ UInt8.ofNat n.val = 110 ∧ ¬ UInt8.ofNat n.val = 116 ∧ ¬ UInt8.ofNat n.val = 102 := by decide +kernel
  have e : UInt8.ofNat c.toNat = c := by simp
  have := key ⟨c.toNat, c.toNat_lt⟩
  simp only [e] at this
  exact this h
theorem node0_ {f1 : ByteArray} {n2 n3 : Nat} {f0 : Int} (h0 : f0 = 0 ∨ f0 = 1 ∨ f0 = 2) (h : nodeOK f0 f1 n2 n3 = true) : f1.size = 0 ∧ n2 = 0 ∧ n3 = 0 := by
  unfold nodeOK at h
  rw [if_pos h0] at h
  simpa using h
theorem node3_ {f1 : ByteArray} {n2 n3 : Nat} (h : nodeOK 3 f1 n2 n3 = true) : litF f1.data.toList = (f1.size, true) ∧ n2 = 0 ∧ n3 = 0 := by
  unfold nodeOK at h
  simp at h
  exact ⟨Prod.ext h.2.1 h.1, h.2.2.1, h.2.2.2⟩
theorem node4_ {f1 : ByteArray} {n2 n3 : Nat} (h : nodeOK 4 f1 n2 n3 = true) : validD f1.data.toList = true ∧ n2 = 0 ∧ n3 = 0 := by
  unfold nodeOK at h
  simp at h
  exact h
theorem node5_ {f1 : ByteArray} {n2 n3 : Nat} (h : nodeOK 5 f1 n2 n3 = true) : f1.size = 0 ∧ n2 = 0 := by
  unfold nodeOK at h
  rw [if_neg (by decide), if_neg (by decide), if_neg (by decide), if_pos rfl] at h
  exact of_decide_eq_true h
theorem node6_ {f1 : ByteArray} {n2 n3 : Nat} (h : nodeOK 6 f1 n2 n3 = true) : f1.size = 0 ∧ n2 = n3 := by
  unfold nodeOK at h
  rw [if_neg (by decide), if_neg (by decide), if_neg (by decide), if_neg (by decide), if_pos rfl] at h
  exact of_decide_eq_true h
theorem nodeOK_kinds {f0 : Int} {f1 : ByteArray} {n2 n3 : Nat} (h : nodeOK f0 f1 n2 n3 = true) (h5 : ¬ f0 = 5) (h6 : ¬ f0 = 6) : f0 = 0 ∨ f0 = 1 ∨ f0 = 2 ∨ f0 = 3 ∨ f0 = 4 := nodeOK_plain h h5 h6
theorem encB_head {v : J} (h : nodeOK v.f0 v.f1 v.f2.length v.f3.length = true) (h5 : ¬ v.f0 = 5) (h6 : ¬ v.f0 = 6) : ∃ c t, encB v = c :: t ∧ Head c := by
  unfold encB
  rcases nodeOK_kinds h h5 h6 with h0 | h0 | h0 | h0 | h0
  · rw [h0]; exact ⟨110, _, rfl, by unfold Head; decide⟩
  · rw [h0]; exact ⟨102, _, rfl, by unfold Head; decide⟩
  · rw [h0]; exact ⟨116, _, rfl, by unfold Head; decide⟩
  · rw [h0] at h ⊢
    obtain ⟨c, t, e, hc⟩ := litF_head (by rw [(node3_ h).1])
    rw [if_pos rfl]
    exact ⟨c, t, e, (dg_head hc).1⟩
  · rw [h0, if_neg (by decide), if_pos rfl, quote_eq]
    exact ⟨34, _, rfl, by unfold Head; decide⟩
theorem encJ_head : ∀ (r : Nat) (v : J), OKJ r v → ∃ c t, encJ r v = c :: t ∧ Head c
  | 0, v, h => encB_head h.1 h.2.1 h.2.2
  | r + 1, v, h => by
    rw [encJ]
    by_cases h5 : v.f0 = 5
    · rw [if_pos h5]; exact ⟨91, _, rfl, by unfold Head; decide⟩
    · rw [if_neg h5]
      by_cases h6 : v.f0 = 6
      · rw [if_pos h6]; exact ⟨123, _, rfl, by unfold Head; decide⟩
      · rw [if_neg h6]; exact encB_head h.1 h5 h6
theorem blank_head {s l : List UInt8} {p : Nat} {c : UInt8} (h : Has s p (c :: l)) (hc : Head c) : blanksF s p = p :=
  blanks_stop s p fun d hd => by
    rw [h.cons.1] at hd
    injection hd with hd
    rw [← hd]; exact hc.1
theorem enc_blank {s l : List UInt8} {p r : Nat} {v : J} (hv : OKJ r v) (h : Has s p (encJ r v ++ l)) : blanksF s p = p := by
  obtain ⟨c, t, e, hc⟩ := encJ_head r v hv
  rw [e] at h
  exact blank_head h hc
theorem base_back {v : J} {s : List UInt8} {p k r : Nat} (hn : nodeOK v.f0 v.f1 v.f2.length v.f3.length = true) (h5 : ¬ v.f0 = 5) (h6 : ¬ v.f0 = 6) (h : Has s p (encB v)) (hs : Stop s (p + (encB v).length)) (hk : s.length < k) : valueF s k r p = some (.val v (p + (encB v).length)) := by
  obtain ⟨f0, f1, f2, f3⟩ := v
  simp only at hn h5 h6
  have nil : ∀ {α : Type} {l : List α}, l.length = 0 → l = [] := fun h => List.length_eq_zero_iff.1 h
  unfold encB at h hs ⊢
  simp only at h hs ⊢
  rcases nodeOK_kinds hn h5 h6 with h0 | h0 | h0 | h0 | h0
  · obtain ⟨e1, e2, e3⟩ := node0_ (.inl h0) hn
    rw [str_empty f1 e1, nil e2, nil e3]
    subst h0
    have hh : Has s p [110, 117, 108, 108] := h
    unfold valueF
    rw [hh.cons.1]
    dsimp only
    rw [if_pos rfl, word_back _ p hh]
    rfl
  · obtain ⟨e1, e2, e3⟩ := node0_ (.inr (.inl h0)) hn
    rw [str_empty f1 e1, nil e2, nil e3]
    subst h0
    have hh : Has s p [102, 97, 108, 115, 101] := h
    unfold valueF
    rw [hh.cons.1]
    dsimp only
    rw [if_neg (by decide), if_neg (by decide), if_pos rfl, word_back _ p hh]
    rfl
  · obtain ⟨e1, e2, e3⟩ := node0_ (.inr (.inr h0)) hn
    rw [str_empty f1 e1, nil e2, nil e3]
    subst h0
    have hh : Has s p [116, 114, 117, 101] := h
    unfold valueF
    rw [hh.cons.1]
    dsimp only
    rw [if_neg (by decide), if_pos rfl, word_back _ p hh]
    rfl
  · subst h0
    obtain ⟨e1, e2, e3⟩ := node3_ hn
    rw [nil e2, nil e3]
    rw [if_pos rfl] at h hs ⊢
    obtain ⟨c, t, e, hc⟩ := litF_head (by rw [e1])
    have hl : litF f1.data.toList = (f1.data.toList.length, true) := by rw [size_data]; exact e1
    have hb := number_back h hs hl
    have hc0 : s[p]? = some c := by rw [e] at h; exact h.cons.1
    obtain ⟨_, n1, n2, n3⟩ := dg_head hc
    unfold valueF
    rw [hc0]
    dsimp only
    rw [if_neg n1, if_neg n2, if_neg n3, if_pos hc, hb]
    simp only [Out.map, bsJ_data]
  · subst h0
    obtain ⟨e1, e2, e3⟩ := node4_ hn
    rw [nil e2, nil e3]
    rw [if_neg (by decide), if_pos rfl] at h hs ⊢
    obtain ⟨q1, q2⟩ := quoted_back e1 h hk
    unfold valueF
    rw [q1]
    dsimp only
    rw [if_neg (by decide), if_neg (by decide), if_neg (by decide), if_neg (by decide), if_pos rfl, q2]
    simp only [Option.map_some, Out.map, bsJ_data]
/-- What stands between the brackets of a list, from an item on. -/
theorem items_back {s : List UInt8} {k r : Nat} (IH : ∀ v, OKJ r v → ∀ p, Has s p (encJ r v) → Stop s (p + (encJ r v).length) → valueF s k r p = some (.val v (p + (encJ r v).length))) :
    ∀ (l : List J) (y : J) (a : List J) (q n i : Nat), (∀ z, z ∈ y :: l → OKJ r z) → Has s q (encJ r y ++ (encI (encJ r) (i + 1) l ++ [93])) → s.length < q + n → sevL (oneI (valueF s k r)) s 93 n a q = some (.val (a ++ y :: l) (q + (encJ r y ++ (encI (encJ r) (i + 1) l ++ [93])).length))
  | l, y, a, q, 0, i, hok, h, hn => by
    have := h.len (by simp only [List.length_append, List.length_cons]; omega)
    omega
  | [], y, a, q, n + 1, i, hok, h, hn => by
    have hr := h.right
    simp only [encI, List.nil_append] at hr
    have hc := hr.cons.1
    have hst := Stop.of hc (by decide)
    have hv := IH y (hok y (List.mem_cons_self ..)) q h.left hst
    unfold sevL oneI
    rw [hv]
    simp only [Option.map_some, Out.map]
    rw [hst.blank, hc]
    simp only [if_true, encI, List.nil_append, List.length_append, List.length_cons, List.length_nil]
    rfl
  | z :: l, y, a, q, n + 1, i, hok, h, hn => by
    have hr := h.right
    have e : encI (encJ r) (i + 1) (z :: l) ++ [93] = 44 :: (encJ r z ++ (encI (encJ r) (i + 1 + 1) l ++ [93])) := by simp [encI]
    rw [e] at hr
    obtain ⟨hc, hr⟩ := hr.cons
    have hst := Stop.of hc (by decide)
    have hv := IH y (hok y (List.mem_cons_self ..)) q h.left hst
    have hzok : OKJ r z := hok z (by simp)
    unfold sevL
    have h1 : oneI (valueF s k r) a q = some (.val (a ++ [y]) (q + (encJ r y).length)) := by unfold oneI; rw [hv]; rfl
    rw [h1]
    simp only
    rw [hst.blank, hc]
    dsimp only
    rw [if_neg (by decide), if_pos rfl, enc_blank hzok hr, items_back IH l z (a ++ [y]) _ n (i + 1) (fun w hw => hok w (List.mem_cons_of_mem _ hw)) hr (by omega)]
    rw [e]
    simp only [List.append_assoc, List.singleton_append, List.length_append, List.length_cons, List.length_nil]
    congr 2
    omega
/-- One member. -/
theorem member_back {s : List UInt8} {k r : Nat} (hk : s.length < k) (IH : ∀ v, OKJ r v → ∀ p, Has s p (encJ r v) → Stop s (p + (encJ r v).length) → valueF s k r p = some (.val v (p + (encJ r v).length)))
    {nm : ByteArray} {y : J} {a : List ByteArray × List J} {q : Nat} {z : UInt8} {post : List UInt8} (hv : validD nm.data.toList = true) (hy : OKJ r y) (hn : ¬ nm.data.toList ∈ a.1.map (fun b => b.data.toList)) (hz : z ∈ ([0, 44, 93, 125] : List UInt8)) (h : Has s q (qB nm ++ (58 :: (encJ r y ++ (z :: post))))) :
    oneM (valueF s k r) s k a q = some (.val (a.1 ++ [nm], a.2 ++ [y]) (q + (qB nm).length + 1 + (encJ r y).length)) ∧ s[q + (qB nm).length + 1 + (encJ r y).length]? = some z := by
  have hq := h.left
  obtain ⟨q1, q2⟩ := quoted_back hv hq hk
  obtain ⟨hc, hr⟩ := h.right.cons
  have hc2 := hr.right.cons.1
  have hb : blanksF s (q + (qB nm).length) = q + (qB nm).length := blanks_stop _ _ fun d hd => by
    rw [hc] at hd; injection hd with hd; rw [← hd]; decide
  refine ⟨?_, hc2⟩
  unfold oneM
  rw [q1]
  dsimp only
  rw [if_pos rfl, q2]
  dsimp only
  rw [if_neg hn, hb, hc]
  dsimp only
  rw [if_pos rfl, enc_blank hy hr, IH y hy _ hr.left (Stop.of hc2 hz)]
  simp only [Option.map_some, Out.map, bsJ_data]
theorem members_back {s : List UInt8} {k r : Nat} (hk : s.length < k) (IH : ∀ v, OKJ r v → ∀ p, Has s p (encJ r v) → Stop s (p + (encJ r v).length) → valueF s k r p = some (.val v (p + (encJ r v).length))) :
    ∀ (ns : List ByteArray) (ys : List J) (nm : ByteArray) (y : J) (a : List ByteArray × List J) (q n i : Nat), ns.length = ys.length → (∀ z, z ∈ y :: ys → OKJ r z) → (∀ z, z ∈ nm :: ns → validD z.data.toList = true) → ((a.1 ++ nm :: ns).map (fun b => b.data.toList)).Nodup →
      Has s q (qB nm ++ (58 :: (encJ r y ++ (encM (encJ r) (i + 1) ns ys ++ [125])))) → s.length < q + n → sevL (oneM (valueF s k r) s k) s 125 n a q = some (.val (a.1 ++ nm :: ns, a.2 ++ y :: ys) (q + (qB nm ++ (58 :: (encJ r y ++ (encM (encJ r) (i + 1) ns ys ++ [125])))).length))
  | ns, ys, nm, y, a, q, 0, i, hl, hok, hva, hnd, h, hn => by
    have := h.len (by simp only [List.length_append, List.length_cons]; omega)
    omega
  | [], _ :: _, nm, y, a, q, n + 1, i, hl, hok, hva, hnd, h, hn => by simp at hl
  | _ :: _, [], nm, y, a, q, n + 1, i, hl, hok, hva, hnd, h, hn => by simp at hl
  | [], [], nm, y, a, q, n + 1, i, hl, hok, hva, hnd, h, hn => by
    have hnm : ¬ nm.data.toList ∈ a.1.map (fun b => b.data.toList) := by
      rw [List.map_append, List.nodup_append] at hnd
      exact fun hh => hnd.2.2 _ hh nm.data.toList (by simp) rfl
    have e : encM (encJ r) (i + 1) [] [] ++ [125] = [125] := rfl
    rw [e] at h
    obtain ⟨h1, h2⟩ := member_back hk IH (hva nm (List.mem_cons_self ..)) (hok y (List.mem_cons_self ..)) hnm (z := 125) (post := []) (by decide) h
    unfold sevL
    rw [h1]
    simp only
    rw [(Stop.of h2 (by decide)).blank, h2]
    simp only [if_true, e, List.length_append, List.length_cons, List.length_nil]
    congr 2
    omega
  | nm2 :: ns, y2 :: ys, nm, y, a, q, n + 1, i, hl, hok, hva, hnd, h, hn => by
    have hnm : ¬ nm.data.toList ∈ a.1.map (fun b => b.data.toList) := by
      rw [List.map_append, List.nodup_append] at hnd
      exact fun hh => hnd.2.2 _ hh nm.data.toList (by simp) rfl
    have e : encM (encJ r) (i + 1) (nm2 :: ns) (y2 :: ys) ++ [125] = 44 :: (qB nm2 ++ (58 :: (encJ r y2 ++ (encM (encJ r) (i + 1 + 1) ns ys ++ [125])))) := by simp [encM]
    rw [e] at h
    obtain ⟨h1, h2⟩ := member_back hk IH (hva nm (List.mem_cons_self ..)) (hok y (List.mem_cons_self ..)) hnm (z := 44) (by decide) h
    have hr := h.right.cons.2.right.cons.2
    have hb : blanksF s (q + (qB nm).length + 1 + (encJ r y).length + 1) = q + (qB nm).length + 1 + (encJ r y).length + 1 := by
      rw [quote_eq nm2] at hr
      exact blank_head hr (by unfold Head; decide)
    unfold sevL
    rw [h1]
    simp only
    rw [(Stop.of h2 (by decide)).blank, h2]
    dsimp only
    rw [if_neg (by decide), if_pos rfl, hb, members_back hk IH ns ys nm2 y2 (a.1 ++ [nm], a.2 ++ [y]) _ n (i + 1) (by simpa using hl) (fun w hw => hok w (List.mem_cons_of_mem _ hw)) (fun w hw => hva w (List.mem_cons_of_mem _ hw)) (by simpa using hnd) hr (by omega)]
    rw [e]
    simp only [List.append_assoc, List.singleton_append, List.length_append, List.length_cons, List.length_nil]
    congr 2
    omega
theorem value_back {s : List UInt8} {k : Nat} (hk : s.length < k) : ∀ (r : Nat) (v : J), OKJ r v → ∀ p, Has s p (encJ r v) → Stop s (p + (encJ r v).length) → valueF s k r p = some (.val v (p + (encJ r v).length))
  | 0, v, hok, p, h, hs => base_back hok.1 hok.2.1 hok.2.2 h hs hk
  | r + 1, v, hok, p, h, hs => by
    have IH := value_back hk r
    have nil : ∀ {α : Type} {l : List α}, l.length = 0 → l = [] := fun h => List.length_eq_zero_iff.1 h
    obtain ⟨hn, hitems, hnames⟩ := hok
    rw [encJ] at h hs ⊢
    by_cases h5 : v.f0 = 5
    · rw [if_pos h5] at h hs ⊢
      have hit := hitems (.inl h5)
      clear hs
      obtain ⟨f0, f1, f2, f3⟩ := v
      simp only at hn h5 hit h ⊢
      subst h5
      obtain ⟨e1, e2⟩ := node5_ hn
      rw [str_empty f1 e1, nil e2]
      have hc := h.cons
      unfold valueF
      rw [hc.1]
      dsimp only
      rw [if_neg (by decide), if_neg (by decide), if_neg (by decide), if_neg (by decide), if_neg (by decide), if_pos (.inl rfl), if_pos rfl]
      have key : sevF (oneI (valueF s k r)) s 93 k [] p = some (.val f3 (p + (91 :: (encI (encJ r) 0 f3 ++ [93])).length)) := by
        unfold sevF
        cases f3 with
        | nil =>
          have h93 := hc.2.cons.1
          rw [(Stop.of h93 (by decide)).blank, h93]
          simp [encI]
        | cons y l =>
          have e : encI (encJ r) 0 (y :: l) ++ [93] = encJ r y ++ (encI (encJ r) (0 + 1) l ++ [93]) := by simp [encI]
          have h2 := hc.2
          rw [e] at h2 ⊢
          obtain ⟨c, t, ec, hh⟩ := encJ_head r y (hit y (List.mem_cons_self ..))
          have hcc : s[p + 1]? = some c := by rw [ec] at h2; exact h2.cons.1
          rw [enc_blank (hit y (List.mem_cons_self ..)) h2, hcc]
          simp only
          rw [if_neg hh.2.1, items_back IH l y [] (p + 1) k 0 hit h2 (by omega)]
          simp only [List.nil_append, List.length_cons]
          congr 2
          omega
      rw [key]
      rfl
    · rw [if_neg h5] at h hs ⊢
      by_cases h6 : v.f0 = 6
      · rw [if_pos h6] at h hs ⊢
        have hit := hitems (.inr h6)
        obtain ⟨hva, hnd⟩ := hnames h6
        clear hs
        obtain ⟨f0, f1, f2, f3⟩ := v
        simp only at hn h6 hit h hva hnd ⊢
        subst h6
        obtain ⟨e1, e2⟩ := node6_ hn
        rw [str_empty f1 e1]
        have hc := h.cons
        unfold valueF
        rw [hc.1]
        dsimp only
        rw [if_neg (by decide), if_neg (by decide), if_neg (by decide), if_neg (by decide), if_neg (by decide), if_pos (.inr rfl), if_neg (by decide)]
        have key : sevF (oneM (valueF s k r) s k) s 125 k ([], []) p = some (.val (f2, f3) (p + (123 :: (encM (encJ r) 0 f2 f3 ++ [125])).length)) := by
          unfold sevF
          cases f2 with
          | nil =>
            have e3 : f3 = [] := nil e2.symm
            subst e3
            have h125 := hc.2.cons.1
            rw [(Stop.of h125 (by decide)).blank, h125]
            simp [encM]
          | cons nm ns =>
            cases f3 with
            | nil => simp at e2
            | cons y ys =>
              have e : encM (encJ r) 0 (nm :: ns) (y :: ys) ++ [125] = qB nm ++ (58 :: (encJ r y ++ (encM (encJ r) (0 + 1) ns ys ++ [125]))) := by simp [encM]
              have h2 := hc.2
              rw [e] at h2 ⊢
              have h3 := h2
              rw [quote_eq nm] at h3
              rw [blank_head h3 (by unfold Head; decide), h3.cons.1]
              simp only
              rw [if_neg (by decide), members_back hk IH ns ys nm y ([], []) (p + 1) k 0 (by simpa using e2) hit hva (by simpa using hnd) h2 (by omega)]
              simp only [List.nil_append, List.length_cons]
              congr 2
              omega
        rw [key]
        rfl
      · rw [if_neg h6] at h hs ⊢
        exact base_back hn h5 h6 h hs hk
theorem parse_back {v : J} (hok : OKJ 32 v) (hl : (encJ 32 v).length ≤ 16384) {k : Nat} (hk : (encJ 32 v).length < k) : parseJ (encJ 32 v) k = some (.val v 0) := by
  have h : Has (encJ 32 v) 0 (encJ 32 v) := ⟨[], by simp⟩
  have hst : Stop (encJ 32 v) (0 + (encJ 32 v).length) := .inl (by rw [List.getElem?_eq_none_iff]; omega)
  have hb : blanksF (encJ 32 v) 0 = 0 := enc_blank (l := []) hok (by simpa using h)
  unfold parseJ
  rw [if_neg (by omega), hb, value_back hk 32 v hok 0 h hst]
  simp only
  rw [hst.blank, if_neg (by omega)]
end Go.Proofs.YtaalajhmfdcalaaDoor.X
namespace Go.Proofs.YtaalajhmfdcalaaDoor.X
open Go.RowKit Go.Lib
set_option maxRecDepth 100000 in
theorem first_eq : Rows.laid_unicode_utf8_first = firstData := by kernel_rfl
set_option maxRecDepth 100000 in
theorem accept_eq : (Rows.laid_unicode_utf8_acceptRanges : DataW Unit) = acceptData := by kernel_rfl
theorem words_of {W : World} (h : VarReads Tryd.prog W "wicket/jtext.words" Rows.laid_wicket_jtext_words) : GLw W := by
  obtain ⟨g, t, cs, fuel, p, hg, hty, hvar, hd⟩ := h
  obtain rfl : 0 = g := Option.some.inj ((show Tryd.prog.globalNamed "wicket/jtext.words" = some 0 by kernel_rfl).symm.trans hg)
  obtain rfl : 104 = t := Option.some.inj ((show (Tryd.prog.globals[0]?).map (·.type) = some 104 by kernel_rfl).symm.trans hty)
  have key : ∀ (i : Nat), i < 3 → ∀ l : List UInt8, (([.lit (.string [110, 117, 108, 108]), .lit (.string [102, 97, 108, 115, 101]), .lit (.string [116, 114, 117, 101])] : List (DataW Unit))[i]? = some (.lit (.string l))) → W.cell? ⟨0, i, none⟩ = some (.string ⟨l.toArray⟩) := by
    intro i hi l hl
    obtain ⟨fuel', d, q, hdi, he⟩ := array_elem Tryd.underlying104 hd i hi
    rw [hl] at hdi
    injection hdi with hdi
    subst hdi
    rw [show Tryd.prog.cellsOf 9 = 1 by kernel_rfl] at he
    obtain ⟨s, hcs, hs, _⟩ := DataW.trod_string Tryd.underlying9 he
    injection hs with hs _
    injection hs with hs
    injection hs with hs
    have e0 := congrArg (·[0]?) hcs
    simp only [List.getElem?_take, List.getElem?_drop] at e0
    rw [World.var?_cell hg hvar i, ← Array.getElem?_toList]
    have e1 : s = ⟨l.toArray⟩ := by
      apply ByteArray.ext
      apply Array.ext'
      rw [hs]
    rw [← e1]
    simpa using e0
  exact ⟨key 0 (by omega) _ rfl, key 1 (by omega) _ rfl, key 2 (by omega) _ rfl⟩
theorem GL_of {W : World} (hL : laidMetH Tryd.prog Rows.jtextFirstRow.laid W) : GL W := by
  rw [MakeChecks.laidMetH_plain _ _ _ (by kernel_rfl)] at hL
  have h1 := laidMet.reads hL (n := "unicode/utf8.acceptRanges") (d := Rows.laid_unicode_utf8_acceptRanges) (.head _)
  have h2 := laidMet.reads hL (n := "wicket/jtext.words") (d := Rows.laid_wicket_jtext_words) (.tail _ (.head _))
  have h3 := laidMet.reads hL (n := "unicode/utf8.first") (d := Rows.laid_unicode_utf8_first) (.tail _ (.tail _ (.head _)))
  rw [first_eq] at h3
  rw [accept_eq] at h1
  exact ⟨words_of h2, utf8Tabs_of_readsT (U8Types.of196 Tryd.lays196) ⟨by kernel_rfl, by kernel_rfl, by kernel_rfl, by kernel_rfl, by kernel_rfl, by kernel_rfl, by kernel_rfl⟩ h3 h1⟩
end Go.Proofs.YtaalajhmfdcalaaDoor.X

