/- 'JtextForm': for every input the law returns true, and every argument reads as before; the row, then the card (what the row lists is tied to the program's text). -/
import Derived.Test.YtaalajhmfdcalaaDoorBc3
import Derived.Test.YtaalajhmfdcalaaDoorBc2
import Derived.Test.YtaalajhmfdcalaaDoorBc1
import Derived.Test.YtaalajhmfdcalaaDoorBc0
import Derived.WalkKit
import Derived.ProofKit
import Derived.OpenShut
import Derived.ShutString
import Derived.Carry
import Derived.SizedLaws
import Derived.Deep.DeepHandedRow
import Derived.Deep.DeepWitnessRowRef
import Derived.Test.YtaalajhmfdcalaaDoorWb
set_option linter.unusedVariables false
set_option linter.unusedSimpArgs false
namespace Go.Proofs.YtaalajhmfdcalaaDoor.X
open Go.RowKit Go.Lib Go.Proofs.YtaalajhmfdcalaaDoorW.PrintWords
/-- A text that any text may follow. -/
def Vd (l : List UInt8) : Prop := ∀ t, validD (l ++ t) = validD t
theorem Vd.nil : Vd [] := fun _ => rfl
theorem Vd.app {a b : List UInt8} (ha : Vd a) (hb : Vd b) : Vd (a ++ b) := fun t => by rw [List.append_assoc, ha, hb]
theorem Vd.valid {l : List UInt8} (h : Vd l) : validD l = true := by have := h []; rwa [List.append_nil] at this
theorem Vd.one {c : UInt8} (h : c.toNat < 128) : Vd [c] := fun t => validD_cons c t h
theorem vd_step {l t : List UInt8} {c : Nat} (hne : l ≠ []) (hd : decodeL (l ++ t) = (c, l.length)) (hok : ¬ (c = 65533 ∧ l.length = 1)) : validD (l ++ t) = validD t := by
  rw [validD_step _ (by simp [hne]), hd]
  simp only
  rw [if_neg hok, List.drop_left]
theorem vd2 (u0 u1 : UInt8) (x y : Nat) (h0 : u0.toNat = 192 + x) (h1 : u1.toNat = 128 + y) (hx : x < 32) (hy : y < 64) (hv : 128 ≤ x * 64 + y) : Vd [u0, u1] := fun t => by
  refine vd_step (c := x * 64 + y) (by simp) ?_ (by simp)
  show decodeL (u0 :: u1 :: t) = (x * 64 + y, 2)
  rw [decodeL_N]
  simp only [List.getD_cons_zero, List.getD_cons_succ, List.length_cons, h0, h1]
  unfold decodeN
  rw [if_neg (by omega), if_pos ⟨by omega, by omega, by omega⟩, if_pos (by omega)]
  congr 1
  omega
theorem vd3 (u0 u1 u2 : UInt8) (x y z : Nat) (h0 : u0.toNat = 224 + x) (h1 : u1.toNat = 128 + y) (h2 : u2.toNat = 128 + z) (hx : x < 16) (hy : y < 64) (hz : z < 64) (hv : 2048 ≤ x * 4096 + y * 64 + z) (hs : x * 4096 + y * 64 + z < 55296 ∨ 57344 ≤ x * 4096 + y * 64 + z) : Vd [u0, u1, u2] := fun t => by
  refine vd_step (c := x * 4096 + y * 64 + z) (by simp) ?_ (by simp)
  show decodeL (u0 :: u1 :: u2 :: t) = (x * 4096 + y * 64 + z, 3)
  rw [decodeL_N]
  simp only [List.getD_cons_zero, List.getD_cons_succ, List.length_cons, h0, h1, h2]
  unfold decodeN
  have e : (224 + x) % 16 * 4096 + (128 + y) % 64 * 64 + (128 + z) % 64 = x * 4096 + y * 64 + z := by omega
  rw [if_neg (by omega), if_neg (by omega), if_pos ⟨by omega, ⟨by omega, by omega⟩, by omega, by omega⟩, e, if_pos ⟨by omega, by omega⟩]
theorem vd4 (u0 u1 u2 u3 : UInt8) (x y z a : Nat) (h0 : u0.toNat = 240 + x) (h1 : u1.toNat = 128 + y) (h2 : u2.toNat = 128 + z) (h3 : u3.toNat = 128 + a) (hx : x < 8) (hy : y < 64) (hz : z < 64) (ha : a < 64) (hv : 65536 ≤ x * 262144 + y * 4096 + z * 64 + a) (hs : x * 262144 + y * 4096 + z * 64 + a ≤ 1114111) : Vd [u0, u1, u2, u3] := fun t => by
  refine vd_step (c := x * 262144 + y * 4096 + z * 64 + a) (by simp) ?_ (by simp)
  show decodeL (u0 :: u1 :: u2 :: u3 :: t) = (x * 262144 + y * 4096 + z * 64 + a, 4)
  rw [decodeL_N]
  simp only [List.getD_cons_zero, List.getD_cons_succ, List.length_cons, h0, h1, h2, h3]
  unfold decodeN
  have e : (240 + x) % 8 * 262144 + (128 + y) % 64 * 4096 + (128 + z) % 64 * 64 + (128 + a) % 64 = x * 262144 + y * 4096 + z * 64 + a := by omega
  rw [if_neg (by omega), if_neg (by omega), if_neg (by omega), if_pos ⟨by omega, ⟨by omega, by omega⟩, ⟨by omega, by omega⟩, by omega, by omega⟩, e, if_pos ⟨by omega, by omega⟩]
theorem u8_nat (n : Nat) (h : n < 256) : (n.toUInt8).toNat = n := by
  show (UInt8.ofNat n).toNat = n
  rw [UInt8.toNat_ofNat']
  exact Nat.mod_eq_of_lt h
theorem vd_rune (r : Nat) : Vd (encodeRune (r : Int)) := by
  unfold encodeRune
  by_cases h1 : r ≤ 127
  · rw [encodeRuneZ_one (by omega) (by omega)]
    exact Vd.one (by rw [u8_nat _ (by omega)]; omega)
  · by_cases h2 : r ≤ 2047
    · rw [encodeRuneZ_two (by omega) (by omega)]
      exact vd2 _ _ (r / 64) (r % 64) (by rw [u8_nat _ (by omega)]; omega) (by rw [u8_nat _ (by omega)]; omega) (by omega) (by omega) (by omega)
    · by_cases h3 : (2048 ≤ r ∧ r < 55296) ∨ (57343 < r ∧ r ≤ 65535)
      · rw [encodeRuneZ_three (by omega)]
        exact vd3 _ _ _ (r / 4096) (r / 64 % 64) (r % 64) (by rw [u8_nat _ (by omega)]; omega) (by rw [u8_nat _ (by omega)]; omega) (by rw [u8_nat _ (by omega)]; omega) (by omega) (by omega) (by omega) (by omega) (by omega)
      · by_cases h4 : 65536 ≤ r ∧ r ≤ 1114111
        · rw [encodeRuneZ_four (by omega) (by omega)]
          exact vd4 _ _ _ _ (r / 262144) (r / 4096 % 64) (r / 64 % 64) (r % 64) (by rw [u8_nat _ (by omega)]; omega) (by rw [u8_nat _ (by omega)]; omega) (by rw [u8_nat _ (by omega)]; omega) (by rw [u8_nat _ (by omega)]; omega) (by omega) (by omega) (by omega) (by omega) (by omega) (by omega)
        · rw [encodeRuneZ_bad (by omega)]
          exact vd3 _ _ _ 15 63 61 (by decide) (by decide) (by decide) (by decide) (by decide) (by decide) (by decide) (by decide)
/-- A run of the text that is read as it stands. -/
theorem vd_run (l : List UInt8) (hne : l ≠ []) (hv : ¬ ((decodeL l).1 = 65533 ∧ (decodeL l).2 = 1)) : Vd (l.take (decodeL l).2) := by
  rw [← encode_decode l hne hv]
  exact vd_rune _
theorem go_L (l : List UInt8) (hne : l ≠ []) : decodeGo ⟨l.toArray⟩ = decodeL l := by
  unfold decodeGo decodeL
  rw [if_neg]
  intro h
  have : l.length = 0 := by simpa [ByteArray.size] using h
  exact hne (List.length_eq_zero_iff.1 this)
theorem textF_vd (s : List UInt8) : ∀ (k : Nat) (out : List UInt8) (p q : Nat) (t : List UInt8), Vd out → textF s k out p = some (.val t q) → Vd t
  | 0, out, p, q, t, _, h => by simp [textF] at h
  | k + 1, out, p, q, t, ho, h => by
    cases hc : s[p]? with
    | none => rw [textF_short _ _ _ _ hc] at h; injection h with h; cases h
    | some c =>
      have hlt := (List.getElem?_eq_some_iff.1 hc).1
      by_cases h34 : c = 34
      · rw [textF_end _ _ _ _ _ hc h34] at h
        injection h with h
        injection h with h _
        exact h ▸ ho
      · by_cases h32 : c.toNat < 32
        · rw [textF_low _ _ _ _ _ hc h32] at h; injection h with h; cases h
        · by_cases h92 : c = 92
          · rw [textF_esc _ _ _ _ _ hc h92] at h
            cases hes : escF s p with
            | err e q1 => rw [hes] at h; injection h with h; cases h
            | val r q1 =>
              rw [hes] at h
              exact textF_vd s k _ _ _ _ (ho.app (vd_rune r)) h
          · by_cases h128 : c.toNat < 128
            · rw [textF_ascii _ _ _ _ _ hc h34 h32 h92 h128] at h
              exact textF_vd s k _ _ _ _ (ho.app (Vd.one h128)) h
            · have hne : s.drop p ≠ [] := by
                intro h0
                have := congrArg List.length h0
                rw [List.length_drop, List.length_nil] at this
                omega
              rw [textF] at h
              simp only [hc, if_neg h34, if_neg h32, if_neg h92, if_neg h128] at h
              rw [go_L _ hne] at h
              split at h
              · split at h <;> (injection h with h; cases h)
              · rename_i hd
                exact textF_vd s k _ _ _ _ (ho.app (vd_run _ hne (fun hh => hd ⟨hh.1, by omega⟩))) h
end Go.Proofs.YtaalajhmfdcalaaDoor.X
namespace Go.Proofs.YtaalajhmfdcalaaDoor.X
open Go.RowKit Go.Lib Go.Proofs.YtaalajhmfdcalaaDoorW.PrintWords
theorem sevL_inv {α : Type} (one : α → Nat → Option (Out α)) (s : List UInt8) (en : UInt8) (I : α → Nat → Prop) (hI : ∀ a q q', q ≤ q' → I a q → I a q') (hone : ∀ a q a' q', q ≤ s.length → one a q = some (.val a' q') → q < q' ∧ q' ≤ s.length) (hst : ∀ a q a' q', q ≤ s.length → I a q → one a q = some (.val a' q') → I a' q') :
    ∀ (k : Nat) (a a' : α) (q q' : Nat), q ≤ s.length → I a q → sevL one s en k a q = some (.val a' q') → I a' q'
  | 0, a, a', q, q', hq, hi, h => by simp [sevL] at h
  | k + 1, a, a', q, q', hq, hi, h => by
    rcases sevL_item _ _ _ _ _ _ _ h with ⟨e, p, _, h2⟩ | ⟨b, q1, h1, h2⟩
    · cases h2
    · obtain ⟨h3, h4⟩ := hone _ _ _ _ hq h1
      have hb := hst _ _ _ _ hq hi h1
      have h5 := blanks_ge s q1
      rcases h2 with ⟨_, h2⟩ | ⟨c, hc, h2⟩
      · cases h2
      · have hlt := (List.getElem?_eq_some_iff.1 hc).1
        rcases h2 with ⟨_, h2⟩ | ⟨_, _, h2⟩ | ⟨_, _, h2⟩
        · injection h2 with h2 h3
          rw [h2]
          exact hI _ _ _ (by omega) hb
        · have h6 := blanks_ge s (blanksF s q1 + 1)
          have h7 := blanks_le s (blanksF s q1 + 1) (by omega)
          exact sevL_inv one s en I hI hone hst k _ _ _ _ h7 (hI _ _ _ (by omega) hb) h2
        · cases h2
theorem sevF_inv {α : Type} (one : α → Nat → Option (Out α)) (s : List UInt8) (en : UInt8) (I : α → Nat → Prop) (hI : ∀ a q q', q ≤ q' → I a q → I a q') (hone : ∀ a q a' q', q ≤ s.length → one a q = some (.val a' q') → q < q' ∧ q' ≤ s.length) (hst : ∀ a q a' q', q ≤ s.length → I a q → one a q = some (.val a' q') → I a' q')
    (k : Nat) (a a' : α) (p q' : Nat) (hp : p < s.length) (hi : ∀ q, I a q) (h : sevF one s en k a p = some (.val a' q')) : I a' q' := by
  unfold sevF at h
  have h7 := blanks_le s (p + 1) (by omega)
  cases hc : s[blanksF s (p + 1)]? with
  | none => rw [hc] at h; injection h with h; cases h
  | some c =>
    rw [hc] at h
    simp only at h
    split at h
    · injection h with h
      injection h with h _
      exact h ▸ hi _
    · exact sevL_inv one s en I hI hone hst k _ _ _ _ h7 (hi _) h
theorem bsJ_toList (l : List UInt8) : (bsJ l).data.toList = l := by simp [bsJ]
theorem bsJ_size (l : List UInt8) : (bsJ l).size = l.length := by rw [← size_data, bsJ_toList]
theorem leaf_OK {r : Nat} {v : J} (hn : nodeOK v.f0 v.f1 v.f2.length v.f3.length = true) (h5 : ¬ v.f0 = 5) (h6 : ¬ v.f0 = 6) : OKJ r v := by
  cases r with
  | zero => exact ⟨hn, h5, h6⟩
  | succ r => exact ⟨hn, fun h => absurd h (by rintro (h | h); exact h5 h; exact h6 h), fun h => absurd h h6⟩
theorem leaf_Bd {B L : Nat} {f0 : Int} {f1 : ByteArray} (h : f1.size ≤ B) : Bd B L ⟨f0, f1, [], []⟩ := .mk _ _ _ _ h (fun _ h => by cases h) (Nat.zero_le _) (Nat.zero_le _) (fun _ h => by cases h)
theorem numberF_fit {s : List UInt8} {p q : Nat} {t : List UInt8} (h : numberF s p = .val t q) : litF t = (t.length, true) ∧ t.length ≤ s.length := by
  unfold numberF at h
  split at h
  · rename_i h1
    injection h with h2 _
    have hle := litF_le (s.drop p)
    have hl : t.length = (litF (s.drop p)).1 := by rw [← h2, List.length_take]; omega
    have ha := Ag.take (s.drop p) (litF (s.drop p)).1 (litF (s.drop p)).1 hle (Nat.le_refl _)
    have h3 : litF (s.drop p) = ((litF (s.drop p)).1, true) := Prod.ext rfl h1
    have h4 := litF_ag h3 ha
    rw [h2] at h4
    rw [List.length_drop] at hle
    exact ⟨by rw [h4, hl], by omega⟩
  · split at h <;> cases h
/-- The items read so far. -/
def RI (s : List UInt8) (r : Nat) (l : List J) (q : Nat) : Prop := l.length ≤ q ∧ ∀ y, y ∈ l → OKJ r y ∧ Bd (2 * s.length) s.length y
def RM (s : List UInt8) (r : Nat) (a : List ByteArray × List J) (q : Nat) : Prop := a.1.length = a.2.length ∧ RI s r a.2 q ∧ (∀ b, b ∈ a.1 → validD b.data.toList = true ∧ b.size ≤ 2 * s.length) ∧ (a.1.map (fun b => b.data.toList)).Nodup
theorem oneM_fit {s : List UInt8} {k r : Nat} {v : Nat → Option (Out J)} (hval : ∀ q j q', q ≤ s.length → v q = some (.val j q') → q < q' ∧ q' ≤ s.length) (hv : ∀ q j q', q ≤ s.length → v q = some (.val j q') → OKJ r j ∧ Bd (2 * s.length) s.length j) {a a' : List ByteArray × List J} {q q' : Nat} (hq : q ≤ s.length) (hi : RM s r a q) (h : oneM v s k a q = some (.val a' q')) : RM s r a' q' := by
  obtain ⟨i1, ⟨i2, i3⟩, i4, i5⟩ := hi
  unfold oneM at h
  split at h
  · injection h with h; cases h
  · split at h
    · split at h
      · cases h
      · injection h with h; cases h
      · rename_i nm q1 ht
        have h1 := textF_val _ _ _ _ _ _ ht
        have h1v := (textF_vd _ _ _ _ _ _ Vd.nil ht).valid
        have h1l := textF_len _ _ _ _ _ _ ht
        rw [List.length_nil] at h1l
        split at h
        · injection h with h; cases h
        · rename_i hnm
          split at h
          · injection h with h; cases h
          · rename_i c hc
            have hlt := (List.getElem?_eq_some_iff.1 hc).1
            split at h
            · obtain ⟨j, h2, h2e⟩ := omap_val _ _ _ _ h
              have h3 := blanks_ge s q1
              have h4 := blanks_ge s (blanksF s q1 + 1)
              have h5 := blanks_le s (blanksF s q1 + 1) (by omega)
              have h6 := hval _ _ _ h5 h2
              have h7 := hv _ _ _ h5 h2
              subst h2e
              refine ⟨by simp [i1], ⟨by simp; omega, fun y hy => ?_⟩, fun b hb => ?_, ?_⟩
              · rcases List.mem_append.1 hy with hy | hy
                · exact i3 y hy
                · rw [List.mem_singleton] at hy; rw [hy]; exact h7
              · rcases List.mem_append.1 hb with hb | hb
                · exact i4 b hb
                · rw [List.mem_singleton] at hb; rw [hb, bsJ_toList, bsJ_size]; exact ⟨h1v, by omega⟩
              · show ((a.1 ++ [bsJ nm]).map _).Nodup
                rw [List.map_append, List.nodup_append]
                refine ⟨i5, by simp, fun x hx y hy => ?_⟩
                simp only [List.map_cons, List.map_nil, List.mem_singleton, bsJ_toList] at hy
                rw [hy]
                rintro rfl
                exact hnm hx
            · injection h with h; cases h
    · injection h with h; cases h
theorem valueF_fit (s : List UInt8) (k : Nat) : ∀ (r p q : Nat) (j : J), p ≤ s.length → valueF s k r p = some (.val j q) → OKJ r j ∧ Bd (2 * s.length) s.length j
  | r, p, q, j, hp, h => by
    have word : ∀ f0 : Int, (f0 = 0 ∨ f0 = 1 ∨ f0 = 2) → OKJ r (⟨f0, bsJ [], [], []⟩ : J) ∧ Bd (2 * s.length) s.length (⟨f0, bsJ [], [], []⟩ : J) := fun f0 h0 => by
      have hn : nodeOK f0 (bsJ []) ([] : List ByteArray).length ([] : List J).length = true := by rcases h0 with rfl | rfl | rfl <;> rfl
      exact ⟨leaf_OK (v := ⟨f0, bsJ [], [], []⟩) hn (by show ¬ f0 = 5; omega) (by show ¬ f0 = 6; omega), leaf_Bd (by rw [bsJ_size]; simp)⟩
    unfold valueF at h
    split at h
    · injection h with h; cases h
    · rename_i c hc
      have hlt := (List.getElem?_eq_some_iff.1 hc).1
      split at h
      · injection h with h
        obtain ⟨a, h1, rfl⟩ := map_val _ _ _ _ h
        exact word 0 (.inl rfl)
      · split at h
        · injection h with h
          obtain ⟨a, h1, rfl⟩ := map_val _ _ _ _ h
          exact word 2 (.inr (.inr rfl))
        · split at h
          · injection h with h
            obtain ⟨a, h1, rfl⟩ := map_val _ _ _ _ h
            exact word 1 (.inr (.inl rfl))
          · split at h
            · injection h with h
              obtain ⟨t, h1, rfl⟩ := map_val _ _ _ _ h
              obtain ⟨h2, h3⟩ := numberF_fit h1
              refine ⟨leaf_OK (v := ⟨3, bsJ t, [], []⟩) ?_ (by show ¬ (3 : Int) = 5; decide) (by show ¬ (3 : Int) = 6; decide), leaf_Bd (by rw [bsJ_size]; omega)⟩
              show nodeOK 3 (bsJ t) 0 0 = true
              unfold nodeOK
              rw [if_neg (by decide), if_pos rfl, bsJ_toList, h2, bsJ_size]
              simp
            · split at h
              · obtain ⟨t, h1, rfl⟩ := omap_val _ _ _ _ h
                have h2 := textF_val s _ _ _ _ _ h1
                have h3 := textF_len s _ _ _ _ _ h1
                rw [List.length_nil] at h3
                refine ⟨leaf_OK (v := ⟨4, bsJ t, [], []⟩) ?_ (by show ¬ (4 : Int) = 5; decide) (by show ¬ (4 : Int) = 6; decide), leaf_Bd (by rw [bsJ_size]; omega)⟩
                show nodeOK 4 (bsJ t) 0 0 = true
                unfold nodeOK
                rw [if_neg (by decide), if_neg (by decide), if_pos rfl, bsJ_toList, (textF_vd _ _ _ _ _ _ Vd.nil h1).valid]
                simp
              · split at h
                · cases r with
                  | zero => injection h with h; cases h
                  | succ r =>
                    have hval : ∀ q j q', q ≤ s.length → valueF s k r q = some (.val j q') → q < q' ∧ q' ≤ s.length := fun q j q' hq => valueF_val s k r q q' j hq
                    have hv : ∀ q j q', q ≤ s.length → valueF s k r q = some (.val j q') → OKJ r j ∧ Bd (2 * s.length) s.length j := fun q j q' hq => valueF_fit s k r q q' j hq
                    simp only at h
                    split at h
                    · obtain ⟨l, h1, rfl⟩ := omap_val _ _ _ _ h
                      have hq := (sevF_val _ s _ (fun a q a' q' hq => oneI_val s _ hval a q a' q' hq) k _ _ _ _ hlt h1).2
                      have hi := sevF_inv _ s _ (RI s r) (fun a q q' hq hi => ⟨Nat.le_trans hi.1 hq, hi.2⟩) (fun a q a' q' hq => oneI_val s _ hval a q a' q' hq) (fun a q a' q' hq hi h => by
                        obtain ⟨j, h1, rfl⟩ := omap_val _ _ _ _ h
                        have h2 := hval _ _ _ hq h1
                        refine ⟨by have := hi.1; simp; omega, fun y hy => ?_⟩
                        rcases List.mem_append.1 hy with hy | hy
                        · exact hi.2 y hy
                        · rw [List.mem_singleton] at hy; rw [hy]; exact hv _ _ _ hq h1) k _ _ _ _ hlt (fun q => ⟨Nat.zero_le _, fun y hy => by cases hy⟩) h1
                      refine ⟨⟨rfl, fun _ y hy => (hi.2 y hy).1, fun h6 => absurd (show (5 : Int) = 6 from h6) (by decide)⟩, .mk _ _ _ _ (by rw [bsJ_size]; simp) (fun _ h => by cases h) (Nat.zero_le _) (Nat.le_trans hi.1 hq) (fun y hy => (hi.2 y hy).2)⟩
                    · obtain ⟨a, h1, rfl⟩ := omap_val _ _ _ _ h
                      have hq := (sevF_val _ s _ (fun a q a' q' hq => oneM_val s k _ hval a q a' q' hq) k _ _ _ _ hlt h1).2
                      obtain ⟨i1, i2, i3, i4⟩ := sevF_inv _ s _ (RM s r) (fun a q q' hq hi => ⟨hi.1, ⟨Nat.le_trans hi.2.1.1 hq, hi.2.1.2⟩, hi.2.2.1, hi.2.2.2⟩) (fun a q a' q' hq => oneM_val s k _ hval a q a' q' hq) (fun a q a' q' hq hi h => oneM_fit hval hv hq hi h) k _ _ _ _ hlt (fun q => show RM s r (([] : List ByteArray), ([] : List J)) q from ⟨rfl, ⟨Nat.zero_le _, fun y hy => by cases hy⟩, (fun b hb => by cases hb), List.nodup_nil⟩) h1
                      refine ⟨⟨?_, fun _ y hy => (i2.2 y hy).1, fun _ => ⟨fun b hb => (i3 b hb).1, i4⟩⟩, .mk _ _ _ _ (by rw [bsJ_size]; simp) (fun b hb => (i3 b hb).2) (by rw [i1]; exact Nat.le_trans i2.1 hq) (Nat.le_trans i2.1 hq) (fun y hy => (i2.2 y hy).2)⟩
                      show nodeOK 6 (bsJ []) a.1.length a.2.length = true
                      unfold nodeOK
                      rw [if_neg (by decide), if_neg (by decide), if_neg (by decide), if_neg (by decide), if_pos rfl, i1]
                      simp [bsJ_size]
                · injection h with h; cases h
end Go.Proofs.YtaalajhmfdcalaaDoor.X
namespace Go.Proofs.YtaalajhmfdcalaaDoor.X
open Go.RowKit Go.Proofs.YtaalajhmfdcalaaDoorW.PrintWords Go.Proofs.YtaalajhmfdcalaaDoorW.PrintLast Go.Proofs.YtaalajhmfdcalaaDoorW.PrintMore
attribute [local go_sem] max2_int min2_int max_two min_two max_three min_three max_four min_four   -- for this text's walks alone
set_option linter.unusedVariables false
set_option linter.unusedSimpArgs false

/-! ### wicketref04_Equal: function 15 -/
mutual
def wicketref04_Equal.j0 : Nat → Bool → Int → ByteArray → List ByteArray → List (S25) → Int → ByteArray → List ByteArray → List (S25) → Option (Bool)
  | 0, _, _, _, _, _, _, _, _, _ => none
  | k + 1, x36, x492000, x492001, x492002, x492003, x493000, x493001, x493002, x493003 => if x36 = true then none else (wicketref04_Equal.l0 k 0 x492000 x492001 x492002 x492003 x493000 x493001 x493002 x493003)
def wicketref04_Equal.l0 : Nat → Int → Int → ByteArray → List ByteArray → List (S25) → Int → ByteArray → List ByteArray → List (S25) → Option (Bool)
  | 0, _, _, _, _, _, _, _, _, _ => none
  | k + 1, x5, x492000, x492001, x492002, x492003, x493000, x493001, x493002, x493003 => if x5 < (x492002.length : Int) then (if 0 ≤ x5 then (if x5 < (x493002.length : Int) then (if (rdOf ByteArray.empty x492002 x5).toList = (rdOf ByteArray.empty x493002 x5).toList then (wicketref04_Equal.l0 k (wrap64 (x5 + 1)) x492000 x492001 x492002 x492003 x493000 x493001 x493002 x493003) else none) else (none)) else (none)) else (wicketref04_Equal.l1 k 0 x492000 x492001 x492002 x492003 x493000 x493001 x493002 x493003)
def wicketref04_Equal.l1 : Nat → Int → Int → ByteArray → List ByteArray → List (S25) → Int → ByteArray → List ByteArray → List (S25) → Option (Bool)
  | 0, _, _, _, _, _, _, _, _, _ => none
  | k + 1, x6, x492000, x492001, x492002, x492003, x493000, x493001, x493002, x493003 => if x6 < (x492003.length : Int) then (if 0 ≤ x6 then (if x6 < (x493003.length : Int) then ((wicketref04_Equal.f k ((rd_T25 x492003 x6).f0) ((rd_T25 x492003 x6).f1) ((rd_T25 x492003 x6).f2) ((rd_T25 x492003 x6).f3) ((rd_T25 x493003 x6).f0) ((rd_T25 x493003 x6).f1) ((rd_T25 x493003 x6).f2) ((rd_T25 x493003 x6).f3)).bind fun t497 => (if t497 = true then (wicketref04_Equal.l1 k (wrap64 (x6 + 1)) x492000 x492001 x492002 x492003 x493000 x493001 x493002 x493003) else none)) else (none)) else (none)) else (some true)
def wicketref04_Equal.f : Nat → Int → ByteArray → List ByteArray → List (S25) → Int → ByteArray → List ByteArray → List (S25) → Option (Bool)
  | 0, _, _, _, _, _, _, _, _ => none
  | k + 1, a0_0, a0_1, l0_2, l0_3, a1_0, a1_1, l1_2, l1_3 => if a0_0 = a1_0 then (if a0_1.toList = a1_1.toList then (if (l0_2.length : Int) = (l1_2.length : Int) then (wicketref04_Equal.j0 k ((l0_3.length : Int) != (l1_3.length : Int)) a0_0 a0_1 l0_2 l0_3 a1_0 a1_1 l1_2 l1_3) else (wicketref04_Equal.j0 k true a0_0 a0_1 l0_2 l0_3 a1_0 a1_1 l1_2 l1_3)) else (wicketref04_Equal.j0 k true a0_0 a0_1 l0_2 l0_3 a1_0 a1_1 l1_2 l1_3)) else (wicketref04_Equal.j0 k true a0_0 a0_1 l0_2 l0_3 a1_0 a1_1 l1_2 l1_3)
end
theorem wicketref04_Equal.mono_l : ∀ k, (∀ y0 y1 y2 y3 y4 y5 y6 y7, LeO (wicketref04_Equal.f k y0 y1 y2 y3 y4 y5 y6 y7) (wicketref04_Equal.f (k + 1) y0 y1 y2 y3 y4 y5 y6 y7)) ∧ (∀ y0 y1 y2 y3 y4 y5 y6 y7 y8, LeO (wicketref04_Equal.j0 k y0 y1 y2 y3 y4 y5 y6 y7 y8) (wicketref04_Equal.j0 (k + 1) y0 y1 y2 y3 y4 y5 y6 y7 y8)) ∧ (∀ y0 y1 y2 y3 y4 y5 y6 y7 y8, LeO (wicketref04_Equal.l0 k y0 y1 y2 y3 y4 y5 y6 y7 y8) (wicketref04_Equal.l0 (k + 1) y0 y1 y2 y3 y4 y5 y6 y7 y8)) ∧ (∀ y0 y1 y2 y3 y4 y5 y6 y7 y8, LeO (wicketref04_Equal.l1 k y0 y1 y2 y3 y4 y5 y6 y7 y8) (wicketref04_Equal.l1 (k + 1) y0 y1 y2 y3 y4 y5 y6 y7 y8))
  | 0 => ⟨fun _ _ _ _ _ _ _ _ r h => by simp [wicketref04_Equal.f] at h, fun _ _ _ _ _ _ _ _ _ r h => by simp [wicketref04_Equal.j0] at h, fun _ _ _ _ _ _ _ _ _ r h => by simp [wicketref04_Equal.l0] at h, fun _ _ _ _ _ _ _ _ _ r h => by simp [wicketref04_Equal.l1] at h⟩
  | k + 1 => by
    obtain ⟨ih0, ih1, ih2, ih3⟩ := wicketref04_Equal.mono_l k
    refine ⟨?_, ?_, ?_, ?_⟩
    · intro y0 y1 y2 y3 y4 y5 y6 y7
      unfold wicketref04_Equal.f
      repeat' first
      | (with_reducible exact ih0 _ _ _ _ _ _ _ _)
      | (with_reducible exact ih1 _ _ _ _ _ _ _ _ _)
      | (with_reducible exact ih2 _ _ _ _ _ _ _ _ _)
      | (with_reducible exact ih3 _ _ _ _ _ _ _ _ _)
      | (with_reducible exact LeO.refl _)
      | (with_reducible exact LeO.none _)
      | (with_reducible refine LeO.ite ?_ ?_)
      | (with_reducible refine LeO.bind ?_ (fun _ => ?_))
      | exact ih0 _ _ _ _ _ _ _ _
      | exact ih1 _ _ _ _ _ _ _ _ _
      | exact ih2 _ _ _ _ _ _ _ _ _
      | exact ih3 _ _ _ _ _ _ _ _ _
      | exact LeO.none _
      | refine LeO.ite ?_ ?_
      | refine LeO.bind ?_ (fun _ => ?_)
    · intro y0 y1 y2 y3 y4 y5 y6 y7 y8
      unfold wicketref04_Equal.j0
      repeat' first
      | (with_reducible exact ih0 _ _ _ _ _ _ _ _)
      | (with_reducible exact ih1 _ _ _ _ _ _ _ _ _)
      | (with_reducible exact ih2 _ _ _ _ _ _ _ _ _)
      | (with_reducible exact ih3 _ _ _ _ _ _ _ _ _)
      | (with_reducible exact LeO.refl _)
      | (with_reducible exact LeO.none _)
      | (with_reducible refine LeO.ite ?_ ?_)
      | (with_reducible refine LeO.bind ?_ (fun _ => ?_))
      | exact ih0 _ _ _ _ _ _ _ _
      | exact ih1 _ _ _ _ _ _ _ _ _
      | exact ih2 _ _ _ _ _ _ _ _ _
      | exact ih3 _ _ _ _ _ _ _ _ _
      | exact LeO.none _
      | refine LeO.ite ?_ ?_
      | refine LeO.bind ?_ (fun _ => ?_)
    · intro y0 y1 y2 y3 y4 y5 y6 y7 y8
      unfold wicketref04_Equal.l0
      repeat' first
      | (with_reducible exact ih0 _ _ _ _ _ _ _ _)
      | (with_reducible exact ih1 _ _ _ _ _ _ _ _ _)
      | (with_reducible exact ih2 _ _ _ _ _ _ _ _ _)
      | (with_reducible exact ih3 _ _ _ _ _ _ _ _ _)
      | (with_reducible exact LeO.refl _)
      | (with_reducible exact LeO.none _)
      | (with_reducible refine LeO.ite ?_ ?_)
      | (with_reducible refine LeO.bind ?_ (fun _ => ?_))
      | exact ih0 _ _ _ _ _ _ _ _
      | exact ih1 _ _ _ _ _ _ _ _ _
      | exact ih2 _ _ _ _ _ _ _ _ _
      | exact ih3 _ _ _ _ _ _ _ _ _
      | exact LeO.none _
      | refine LeO.ite ?_ ?_
      | refine LeO.bind ?_ (fun _ => ?_)
    · intro y0 y1 y2 y3 y4 y5 y6 y7 y8
      unfold wicketref04_Equal.l1
      repeat' first
      | (with_reducible exact ih0 _ _ _ _ _ _ _ _)
      | (with_reducible exact ih1 _ _ _ _ _ _ _ _ _)
      | (with_reducible exact ih2 _ _ _ _ _ _ _ _ _)
      | (with_reducible exact ih3 _ _ _ _ _ _ _ _ _)
      | (with_reducible exact LeO.refl _)
      | (with_reducible exact LeO.none _)
      | (with_reducible refine LeO.ite ?_ ?_)
      | (with_reducible refine LeO.bind ?_ (fun _ => ?_))
      | exact ih0 _ _ _ _ _ _ _ _
      | exact ih1 _ _ _ _ _ _ _ _ _
      | exact ih2 _ _ _ _ _ _ _ _ _
      | exact ih3 _ _ _ _ _ _ _ _ _
      | exact LeO.none _
      | refine LeO.ite ?_ ?_
      | refine LeO.bind ?_ (fun _ => ?_)
theorem wicketref04_Equal.mono : ∀ a0 a1 a2 a3 a4 a5 a6 a7 k, LeO (wicketref04_Equal.f k a0 a1 a2 a3 a4 a5 a6 a7) (wicketref04_Equal.f (k + 1) a0 a1 a2 a3 a4 a5 a6 a7) := by
  intro a0 a1 a2 a3 a4 a5 a6 a7 k
  obtain ⟨ih0, ih1, ih2, ih3⟩ := wicketref04_Equal.mono_l k
  exact ih0 a0 a1 a2 a3 a4 a5 a6 a7
def wicketref04_Equal.T6 : Bool × List (List Nat × List Nat) := (true, [([], []), ([0], [0]), ([], []), ([1, 2], [1, 2]), ([3], [3]), ([], []), ([5], [5]), ([], []), ([6, 7], [6, 7]), ([8], [8]), ([4, 9], [4, 9])])
def wicketref04_Equal.B6 : List Nat := [0, 1, 0, 7, 15, 0, 32, 0, 224, 480, 1023]
theorem wicketref04_Equal.tab6 : rtab .any (opsOf Tryd.f15 6) = wicketref04_Equal.T6 := by kernel_rfl
theorem wicketref04_Equal.bits6 : waitsOk wicketref04_Equal.T6.2 wicketref04_Equal.B6 = true := by kernel_rfl
def wicketref04_Equal.T11 : Bool × List (List Nat × List Nat) := (true, [([], []), ([0], [0]), ([], []), ([1, 2], [1, 2]), ([3], [3]), ([], []), ([5], [5]), ([], []), ([6, 7], [6, 7]), ([8], [8]), ([4, 9], [4, 9]), ([10], [10])])
def wicketref04_Equal.B11 : List Nat := [0, 1, 0, 7, 15, 0, 32, 0, 224, 480, 1023, 2047]
theorem wicketref04_Equal.tab11 : rtab .any (opsOf Tryd.f15 11) = wicketref04_Equal.T11 := by kernel_rfl
theorem wicketref04_Equal.bits11 : waitsOk wicketref04_Equal.T11.2 wicketref04_Equal.B11 = true := by kernel_rfl
set_option maxHeartbeats 8000000 in
set_option maxRecDepth 100000 in
theorem wicketref04_Equal.calls (k : Nat) : ∀ (a0_0 : Int) (a0_1 : ByteArray) (A0_2 : Option Addr) (c0_2 : Nat) (l0_2 : List ByteArray) (A0_3 : Option Addr) (c0_3 : Nat) (l0_3 : List (S25)) (a1_0 : Int) (a1_1 : ByteArray) (A1_2 : Option Addr) (c1_2 : Nat) (l1_2 : List ByteArray) (A1_3 : Option Addr) (c1_3 : Nat) (l1_3 : List (S25)) (r : Bool) (w : World) (hr0_2 : Kd.C Kd.string w A0_2 l0_2.length l0_2) (hc0_2 : l0_2.length ≤ c0_2) (hr0_3 : Kd.C k25 w A0_3 l0_3.length l0_3) (hc0_3 : l0_3.length ≤ c0_3) (hr1_2 : Kd.C Kd.string w A1_2 l1_2.length l1_2) (hc1_2 : l1_2.length ≤ c1_2) (hr1_3 : Kd.C k25 w A1_3 l1_3.length l1_3) (hc1_3 : l1_3.length ≤ c1_3) (h : wicketref04_Equal.f k a0_0 a0_1 l0_2 l0_3 a1_0 a1_1 l1_2 l1_3 = some r),
    Calls Tryd.prog 15 #[.agg #[.int .i64 a0_0, .string a0_1, .slice A0_2 l0_2.length c0_2, .slice A0_3 l0_3.length c0_3], .agg #[.int .i64 a1_0, .string a1_1, .slice A1_2 l1_2.length c1_2, .slice A1_3 l1_3.length c1_3]] w fun e w' => e = .returned (.bool r) ∧ Below w.heap.size w w' := by
  induction k using Nat.strongRecOn with
  | _ k ih =>
  intro a0_0 a0_1 A0_2 c0_2 l0_2 A0_3 c0_3 l0_3 a1_0 a1_1 A1_2 c1_2 l1_2 A1_3 c1_3 l1_3 r w hr0_2 hc0_2 hr0_3 hc0_3 hr1_2 hc1_2 hr1_3 hc1_3 h
  cases k with
  | zero => exact absurd h (by simp [wicketref04_Equal.f])
  | succ k =>
  simp only [wicketref04_Equal.f] at h
  have hu25 := Tryd.underlying25
  have HR0_2 := Aside0.mk hr0_2
  have HC0_2 := Aside0.mk hc0_2
  clear hr0_2 hc0_2
  have HR0_3 := Aside0.mk hr0_3
  have HC0_3 := Aside0.mk hc0_3
  clear hr0_3 hc0_3
  have HR1_2 := Aside0.mk hr1_2
  have HC1_2 := Aside0.mk hc1_2
  clear hr1_2 hc1_2
  have HR1_3 := Aside0.mk hr1_3
  have HC1_3 := Aside0.mk hc1_3
  clear hr1_3 hc1_3
  have HB := Aside0.mk (Below.refl w.heap.size w)
  have H : (if a0_0 = a1_0 then (if a0_1.toList = a1_1.toList then (if (l0_2.length : Int) = (l1_2.length : Int) then (wicketref04_Equal.j0 k ((l0_3.length : Int) != (l1_3.length : Int)) a0_0 a0_1 l0_2 l0_3 a1_0 a1_1 l1_2 l1_3) else (wicketref04_Equal.j0 k true a0_0 a0_1 l0_2 l0_3 a1_0 a1_1 l1_2 l1_3)) else (wicketref04_Equal.j0 k true a0_0 a0_1 l0_2 l0_3 a1_0 a1_1 l1_2 l1_3)) else (wicketref04_Equal.j0 k true a0_0 a0_1 l0_2 l0_3 a1_0 a1_1 l1_2 l1_3)) = some r := h
  clear h
  have HC3 := Aside0.mk H
  clear H
  go_enter Tryd.func15, Tryd.ntmps15
  go_upto_region 1 with (first | ((with_reducible refine gate_dst (N := 2) rfl ?_); (try (refine gate_guard (by rfl) ?_; dsimp only)); refine box_event ?hg (N := 2) ?hd (cs := #[.int .i64 a0_0, .string a0_1, .slice A0_2 l0_2.length c0_2, .slice A0_3 l0_3.length c0_3]) (t := 25) ?hr ?_; (case hd => rfl); (case hg => rfl); (case hr => first | (go_simp; done) | (go_simp; rfl)); intro gb491 hg w4 hbox hb; have n0_ := Aside0.mk (below_step (by repeat (first | (with_reducible first | exact HB.out | apply below_alloc | apply pw_below_drewN | apply below_drew1) | exact HB.out)) hb); have n1_ := Aside0.mk (hbox); have n2_ := Aside0.mk ((by rw [hg]; exact (below_size (by repeat (first | (with_reducible first | exact HB.out | apply below_alloc | apply pw_below_drewN | apply below_drew1) | exact HB.out))) : w.heap.size ≤ gb491)); have n3_ := Aside0.mk ((by rw [hg]; exact (below_size (by repeat (first | (with_reducible first | exact HB.out | apply below_alloc | apply pw_below_drewN | apply below_drew1) | exact HB.out))) : w.heap.size ≤ gb491)); clear HB; have HB := n0_; have BK491 := n1_; have GW491 := n2_; have GE491 := n3_; clear n0_ n1_ n2_ n3_; clear hb hbox hg) | ((with_reducible refine gate_dst (N := 3) rfl ?_); (try (refine gate_guard (by rfl) ?_; dsimp only)); refine box_event ?hg (N := 3) ?hd (cs := #[.int .i64 a1_0, .string a1_1, .slice A1_2 l1_2.length c1_2, .slice A1_3 l1_3.length c1_3]) (t := 25) ?hr ?_; (case hd => rfl); (case hg => rfl); (case hr => first | (go_simp; done) | (go_simp; rfl)); intro gb492 hg w5 hbox hb; have n0_ := Aside0.mk (blk_below (g := gb491) (o := .cells #[.int .i64 a0_0, .string a0_1, .slice A0_2 l0_2.length c0_2, .slice A0_3 l0_3.length c0_3] 25 (0, 0)) (by (with_reducible repeat (first | refine blk_drewN ?_ _ | refine blk_drew ?_ | refine blk_alloc ?_ _)); exact BK491.out) hb); have n1_ := Aside0.mk (below_step (by repeat (first | (with_reducible first | exact HB.out | apply below_alloc | apply pw_below_drewN | apply below_drew1 | refine below_set ?_ GE491.out) | exact HB.out)) hb); have n2_ := Aside0.mk (hbox); have n3_ := Aside0.mk ((by rw [hg]; exact (below_size (by repeat (first | (with_reducible first | exact HB.out | apply below_alloc | apply pw_below_drewN | apply below_drew1 | refine below_set ?_ GE491.out) | exact HB.out))) : w.heap.size ≤ gb492)); have n4_ := Aside0.mk ((by rw [hg]; exact (below_size (by repeat (first | (with_reducible first | exact HB.out | apply below_alloc | apply pw_below_drewN | apply below_drew1 | refine below_set ?_ GE491.out) | exact HB.out))) : w.heap.size ≤ gb492)); have n5_ := Aside0.mk ((by rw [hg]; exact Nat.ne_of_lt (blk_lt (g := gb491) (o := .cells #[.int .i64 a0_0, .string a0_1, .slice A0_2 l0_2.length c0_2, .slice A0_3 l0_3.length c0_3] 25 (0, 0)) (by (with_reducible repeat (first | refine blk_drewN ?_ _ | refine blk_drew ?_ | refine blk_alloc ?_ _)); exact BK491.out)) : gb491 ≠ gb492)); have n6_ := Aside0.mk ((by rw [hg]; exact Nat.ne_of_gt (blk_lt (g := gb491) (o := .cells #[.int .i64 a0_0, .string a0_1, .slice A0_2 l0_2.length c0_2, .slice A0_3 l0_3.length c0_3] 25 (0, 0)) (by (with_reducible repeat (first | refine blk_drewN ?_ _ | refine blk_drew ?_ | refine blk_alloc ?_ _)); exact BK491.out)) : gb492 ≠ gb491)); clear BK491; clear HB; have BK491 := n0_; have HB := n1_; have BK492 := n2_; have GW492 := n3_; have GE492 := n4_; have NB491_492 := n5_; have NB492_491 := n6_; clear n0_ n1_ n2_ n3_ n4_ n5_ n6_; clear hb hbox hg))
  (try simp only [Act.put, List.setIfInBounds_toArray, List.set_cons_zero, List.set_cons_succ])
  go_cut [36] (fun v36 wc => ∃ (kq : Nat) (x36_2 : Bool), v36 = .bool x36_2 ∧ Aside0 (wicketref04_Equal.j0 kq x36_2 a0_0 a0_1 l0_2 l0_3 a1_0 a1_1 l1_2 l1_3 = some r) ∧ Aside0 (kq ≤ k) ∧ Aside0 (wc.heap[gb491]? = some (.cells #[.int .i64 a0_0, .string a0_1, (.slice A0_2 l0_2.length c0_2), (.slice A0_3 l0_3.length c0_3)] 25 (0, 0))) ∧ Aside0 (wc.heap[gb492]? = some (.cells #[.int .i64 a1_0, .string a1_1, (.slice A1_2 l1_2.length c1_2), (.slice A1_3 l1_3.length c1_3)] 25 (0, 0))) ∧ Aside0 (Below w.heap.size w wc))
  case first =>
    have H := HC3.out
    clear HC3
    by_cases c6 : a0_0 = a1_0
    · rw [if_pos c6] at H
      have c6b0 : (a0_0 == a1_0) = true := beq_iff_eq.mpr c6
      have c6b1 : (a0_0 != a1_0) = false := bne_eq_false_iff_eq.mpr c6
      clear c6
      (first | rw [c6b0] | (simp only [i64_w, i32_w]; rw [c6b0]) | skip)
      by_cases c7 : a0_1.toList = a1_1.toList
      · rw [if_pos c7] at H
        have c7b0 : (a0_1.toList == a1_1.toList) = true := beq_iff_eq.mpr c7
        have c7b1 : (a0_1.toList != a1_1.toList) = false := bne_eq_false_iff_eq.mpr c7
        clear c7
        by_cases c8 : (l0_2.length : Int) = (l1_2.length : Int)
        · rw [if_pos c8] at H
          have c8b0 : ((l0_2.length : Int) == (l1_2.length : Int)) = true := beq_iff_eq.mpr c8
          have c8b1 : ((l0_2.length : Int) != (l1_2.length : Int)) = false := bne_eq_false_iff_eq.mpr c8
          have c8b2 : (l0_2.length == l1_2.length) = true := by first | simpa using c8 | (simp at c8 ⊢; omega)
          clear c8
          have H' := Aside0.mk H
          clear H
          have hnb9 := NB491_492.out
          have hnc9 := NB492_491.out
          have hcz10_0 : w5.cell? ⟨gb491, 0, none⟩ = some (.int .i64 a0_0) := (blk_cell BK491.out 0).trans rfl
          have hcz10_1 : w5.cell? ⟨gb491, 1, none⟩ = some (.string a0_1) := (blk_cell BK491.out 1).trans rfl
          have hcz10_2 : w5.cell? ⟨gb491, 2, none⟩ = some (.slice A0_2 l0_2.length c0_2) := (blk_cell BK491.out 2).trans rfl
          have hcz10_3 : w5.cell? ⟨gb491, 3, none⟩ = some (.slice A0_3 l0_3.length c0_3) := (blk_cell BK491.out 3).trans rfl
          have hfz10_0 := blk_frozen BK491.out 0
          have hfz10_1 := blk_frozen BK491.out 1
          have hfz10_2 := blk_frozen BK491.out 2
          have hfz10_3 := blk_frozen BK491.out 3
          have hcz11_0 : w5.cell? ⟨gb492, 0, none⟩ = some (.int .i64 a1_0) := (blk_cell BK492.out 0).trans rfl
          have hcz11_1 : w5.cell? ⟨gb492, 1, none⟩ = some (.string a1_1) := (blk_cell BK492.out 1).trans rfl
          have hcz11_2 : w5.cell? ⟨gb492, 2, none⟩ = some (.slice A1_2 l1_2.length c1_2) := (blk_cell BK492.out 2).trans rfl
          have hcz11_3 : w5.cell? ⟨gb492, 3, none⟩ = some (.slice A1_3 l1_3.length c1_3) := (blk_cell BK492.out 3).trans rfl
          have hfz11_0 := blk_frozen BK492.out 0
          have hfz11_1 := blk_frozen BK492.out 1
          have hfz11_2 := blk_frozen BK492.out 2
          have hfz11_3 := blk_frozen BK492.out 3
          go_wp2
          go_meet
          case rel => exact ⟨_, (((l0_3.length : Int) != (l1_3.length : Int))), (by first | rfl | (simp; done) | (simp [*]; done)), H', ⟨by first | omega | exact Nat.le_refl _⟩, ⟨by (with_reducible repeat (first | refine blk_drewN ?_ _ | refine blk_drew ?_ | refine blk_alloc ?_ _)); exact BK491.out⟩, ⟨by (with_reducible repeat (first | refine blk_drewN ?_ _ | refine blk_drew ?_ | refine blk_alloc ?_ _)); exact BK492.out⟩, ⟨by repeat (first | (with_reducible first | exact HB.out | apply below_alloc | apply pw_below_drewN | apply below_drew1 | refine below_set ?_ GE491.out | refine below_set ?_ GE492.out) | exact HB.out)⟩⟩
        · rw [if_neg c8] at H
          have c8b0 : ((l0_2.length : Int) == (l1_2.length : Int)) = false := beq_eq_false_iff_ne.mpr c8
          have c8b1 : ((l0_2.length : Int) != (l1_2.length : Int)) = true := bne_iff_ne.mpr c8
          have c8b2 : (l0_2.length == l1_2.length) = false := by first | simpa using c8 | (simp at c8 ⊢; omega)
          have H' := Aside0.mk H
          clear H
          have hnb12 := NB491_492.out
          have hnc12 := NB492_491.out
          have hcz13_0 : w5.cell? ⟨gb491, 0, none⟩ = some (.int .i64 a0_0) := (blk_cell BK491.out 0).trans rfl
          have hcz13_1 : w5.cell? ⟨gb491, 1, none⟩ = some (.string a0_1) := (blk_cell BK491.out 1).trans rfl
          have hcz13_2 : w5.cell? ⟨gb491, 2, none⟩ = some (.slice A0_2 l0_2.length c0_2) := (blk_cell BK491.out 2).trans rfl
          have hcz13_3 : w5.cell? ⟨gb491, 3, none⟩ = some (.slice A0_3 l0_3.length c0_3) := (blk_cell BK491.out 3).trans rfl
          have hfz13_0 := blk_frozen BK491.out 0
          have hfz13_1 := blk_frozen BK491.out 1
          have hfz13_2 := blk_frozen BK491.out 2
          have hfz13_3 := blk_frozen BK491.out 3
          have hcz14_0 : w5.cell? ⟨gb492, 0, none⟩ = some (.int .i64 a1_0) := (blk_cell BK492.out 0).trans rfl
          have hcz14_1 : w5.cell? ⟨gb492, 1, none⟩ = some (.string a1_1) := (blk_cell BK492.out 1).trans rfl
          have hcz14_2 : w5.cell? ⟨gb492, 2, none⟩ = some (.slice A1_2 l1_2.length c1_2) := (blk_cell BK492.out 2).trans rfl
          have hcz14_3 : w5.cell? ⟨gb492, 3, none⟩ = some (.slice A1_3 l1_3.length c1_3) := (blk_cell BK492.out 3).trans rfl
          have hfz14_0 := blk_frozen BK492.out 0
          have hfz14_1 := blk_frozen BK492.out 1
          have hfz14_2 := blk_frozen BK492.out 2
          have hfz14_3 := blk_frozen BK492.out 3
          go_wp2
          go_meet
          case rel => exact ⟨_, (true), (by first | rfl | (simp; done) | (simp [*]; done)), H', ⟨by first | omega | exact Nat.le_refl _⟩, ⟨by (with_reducible repeat (first | refine blk_drewN ?_ _ | refine blk_drew ?_ | refine blk_alloc ?_ _)); exact BK491.out⟩, ⟨by (with_reducible repeat (first | refine blk_drewN ?_ _ | refine blk_drew ?_ | refine blk_alloc ?_ _)); exact BK492.out⟩, ⟨by repeat (first | (with_reducible first | exact HB.out | apply below_alloc | apply pw_below_drewN | apply below_drew1 | refine below_set ?_ GE491.out | refine below_set ?_ GE492.out) | exact HB.out)⟩⟩
      · rw [if_neg c7] at H
        have c7b0 : (a0_1.toList == a1_1.toList) = false := beq_eq_false_iff_ne.mpr c7
        have c7b1 : (a0_1.toList != a1_1.toList) = true := bne_iff_ne.mpr c7
        have H' := Aside0.mk H
        clear H
        have hnb15 := NB491_492.out
        have hnc15 := NB492_491.out
        have hcz16_0 : w5.cell? ⟨gb491, 0, none⟩ = some (.int .i64 a0_0) := (blk_cell BK491.out 0).trans rfl
        have hcz16_1 : w5.cell? ⟨gb491, 1, none⟩ = some (.string a0_1) := (blk_cell BK491.out 1).trans rfl
        have hcz16_2 : w5.cell? ⟨gb491, 2, none⟩ = some (.slice A0_2 l0_2.length c0_2) := (blk_cell BK491.out 2).trans rfl
        have hcz16_3 : w5.cell? ⟨gb491, 3, none⟩ = some (.slice A0_3 l0_3.length c0_3) := (blk_cell BK491.out 3).trans rfl
        have hfz16_0 := blk_frozen BK491.out 0
        have hfz16_1 := blk_frozen BK491.out 1
        have hfz16_2 := blk_frozen BK491.out 2
        have hfz16_3 := blk_frozen BK491.out 3
        have hcz17_0 : w5.cell? ⟨gb492, 0, none⟩ = some (.int .i64 a1_0) := (blk_cell BK492.out 0).trans rfl
        have hcz17_1 : w5.cell? ⟨gb492, 1, none⟩ = some (.string a1_1) := (blk_cell BK492.out 1).trans rfl
        have hcz17_2 : w5.cell? ⟨gb492, 2, none⟩ = some (.slice A1_2 l1_2.length c1_2) := (blk_cell BK492.out 2).trans rfl
        have hcz17_3 : w5.cell? ⟨gb492, 3, none⟩ = some (.slice A1_3 l1_3.length c1_3) := (blk_cell BK492.out 3).trans rfl
        have hfz17_0 := blk_frozen BK492.out 0
        have hfz17_1 := blk_frozen BK492.out 1
        have hfz17_2 := blk_frozen BK492.out 2
        have hfz17_3 := blk_frozen BK492.out 3
        go_wp2
        go_meet
        case rel => exact ⟨_, (true), (by first | rfl | (simp; done) | (simp [*]; done)), H', ⟨by first | omega | exact Nat.le_refl _⟩, ⟨by (with_reducible repeat (first | refine blk_drewN ?_ _ | refine blk_drew ?_ | refine blk_alloc ?_ _)); exact BK491.out⟩, ⟨by (with_reducible repeat (first | refine blk_drewN ?_ _ | refine blk_drew ?_ | refine blk_alloc ?_ _)); exact BK492.out⟩, ⟨by repeat (first | (with_reducible first | exact HB.out | apply below_alloc | apply pw_below_drewN | apply below_drew1 | refine below_set ?_ GE491.out | refine below_set ?_ GE492.out) | exact HB.out)⟩⟩
    · rw [if_neg c6] at H
      have c6b0 : (a0_0 == a1_0) = false := beq_eq_false_iff_ne.mpr c6
      have c6b1 : (a0_0 != a1_0) = true := bne_iff_ne.mpr c6
      (first | rw [c6b0] | (simp only [i64_w, i32_w]; rw [c6b0]) | skip)
      have H' := Aside0.mk H
      clear H
      have hnb18 := NB491_492.out
      have hnc18 := NB492_491.out
      have hcz19_0 : w5.cell? ⟨gb491, 0, none⟩ = some (.int .i64 a0_0) := (blk_cell BK491.out 0).trans rfl
      have hcz19_1 : w5.cell? ⟨gb491, 1, none⟩ = some (.string a0_1) := (blk_cell BK491.out 1).trans rfl
      have hcz19_2 : w5.cell? ⟨gb491, 2, none⟩ = some (.slice A0_2 l0_2.length c0_2) := (blk_cell BK491.out 2).trans rfl
      have hcz19_3 : w5.cell? ⟨gb491, 3, none⟩ = some (.slice A0_3 l0_3.length c0_3) := (blk_cell BK491.out 3).trans rfl
      have hfz19_0 := blk_frozen BK491.out 0
      have hfz19_1 := blk_frozen BK491.out 1
      have hfz19_2 := blk_frozen BK491.out 2
      have hfz19_3 := blk_frozen BK491.out 3
      have hcz20_0 : w5.cell? ⟨gb492, 0, none⟩ = some (.int .i64 a1_0) := (blk_cell BK492.out 0).trans rfl
      have hcz20_1 : w5.cell? ⟨gb492, 1, none⟩ = some (.string a1_1) := (blk_cell BK492.out 1).trans rfl
      have hcz20_2 : w5.cell? ⟨gb492, 2, none⟩ = some (.slice A1_2 l1_2.length c1_2) := (blk_cell BK492.out 2).trans rfl
      have hcz20_3 : w5.cell? ⟨gb492, 3, none⟩ = some (.slice A1_3 l1_3.length c1_3) := (blk_cell BK492.out 3).trans rfl
      have hfz20_0 := blk_frozen BK492.out 0
      have hfz20_1 := blk_frozen BK492.out 1
      have hfz20_2 := blk_frozen BK492.out 2
      have hfz20_3 := blk_frozen BK492.out 3
      go_wp2
      go_meet
      case rel => exact ⟨_, (true), (by first | rfl | (simp; done) | (simp [*]; done)), H', ⟨by first | omega | exact Nat.le_refl _⟩, ⟨by (with_reducible repeat (first | refine blk_drewN ?_ _ | refine blk_drew ?_ | refine blk_alloc ?_ _)); exact BK491.out⟩, ⟨by (with_reducible repeat (first | refine blk_drewN ?_ _ | refine blk_drew ?_ | refine blk_alloc ?_ _)); exact BK492.out⟩, ⟨by repeat (first | (with_reducible first | exact HB.out | apply below_alloc | apply pw_below_drewN | apply below_drew1 | refine below_set ?_ GE491.out | refine below_set ?_ GE492.out) | exact HB.out)⟩⟩
  case rest =>
    clear HC3
    try clear c1
    try clear p2
    try clear c6
    try clear c6b0
    try clear c6b1
    try clear c7
    try clear c7b0
    try clear c7b1
    try clear c8
    try clear c8b0
    try clear c8b1
    try clear c8b2
    try clear c9
    try clear c12
    try clear c15
    try clear c18
    try clear hcz10_0
    try clear hcz10_1
    try clear hcz10_2
    try clear hcz10_3
    try clear hcz11_0
    try clear hcz11_1
    try clear hcz11_2
    try clear hcz11_3
    try clear hcz13_0
    try clear hcz13_1
    try clear hcz13_2
    try clear hcz13_3
    try clear hcz14_0
    try clear hcz14_1
    try clear hcz14_2
    try clear hcz14_3
    try clear hcz16_0
    try clear hcz16_1
    try clear hcz16_2
    try clear hcz16_3
    try clear hcz17_0
    try clear hcz17_1
    try clear hcz17_2
    try clear hcz17_3
    try clear hcz19_0
    try clear hcz19_1
    try clear hcz19_2
    try clear hcz19_3
    try clear hcz20_0
    try clear hcz20_1
    try clear hcz20_2
    try clear hcz20_3
    try clear hfz10_0
    try clear hfz10_1
    try clear hfz10_2
    try clear hfz10_3
    try clear hfz11_0
    try clear hfz11_1
    try clear hfz11_2
    try clear hfz11_3
    try clear hfz13_0
    try clear hfz13_1
    try clear hfz13_2
    try clear hfz13_3
    try clear hfz14_0
    try clear hfz14_1
    try clear hfz14_2
    try clear hfz14_3
    try clear hfz16_0
    try clear hfz16_1
    try clear hfz16_2
    try clear hfz16_3
    try clear hfz17_0
    try clear hfz17_1
    try clear hfz17_2
    try clear hfz17_3
    try clear hfz19_0
    try clear hfz19_1
    try clear hfz19_2
    try clear hfz19_3
    try clear hfz20_0
    try clear hfz20_1
    try clear hfz20_2
    try clear hfz20_3
    obtain ⟨kq, x36_2, rfl, HA, HJ2, BK491, BK492, HB⟩ := hcut
    cases kq with
    | zero => exact absurd HA.out (by simp [wicketref04_Equal.j0])
    | succ kj2 =>
      have H := HA.out
      clear HA
      simp only [wicketref04_Equal.j0] at H
      by_cases c21 : x36_2 = true
      · subst c21
        have H1 : none = some r := by rw [if_pos rfl] at H; exact H
        clear H
        have H := H1
        clear H1
        cases H
      · replace c21 := Bool.eq_false_iff.mpr c21
        subst c21
        have H1 : (wicketref04_Equal.l0 kj2 0 a0_0 a0_1 l0_2 l0_3 a1_0 a1_1 l1_2 l1_3) = some r := by rw [if_neg (show ¬ (false = true) by decide)] at H; exact H
        clear H
        have H := H1
        clear H1
        have H' := Aside0.mk H
        clear H
        go_wp2
        go_loopg [5] kj2 (fun kq v5 w' => ∃ (x5_2 : Int), v5 = .int .i64 x5_2 ∧ Aside0 (wicketref04_Equal.l0 kq x5_2 a0_0 a0_1 l0_2 l0_3 a1_0 a1_1 l1_2 l1_3 = some r) ∧ Aside0 (kq ≤ kj2) ∧ Aside0 (w'.heap[gb491]? = some (.cells #[.int .i64 a0_0, .string a0_1, (.slice A0_2 l0_2.length c0_2), (.slice A0_3 l0_3.length c0_3)] 25 (0, 0))) ∧ Aside0 (w'.heap[gb492]? = some (.cells #[.int .i64 a1_0, .string a1_1, (.slice A1_2 l1_2.length c1_2), (.slice A1_3 l1_3.length c1_3)] 25 (0, 0))) ∧ Aside0 (Below w.heap.size w w'))
        case atStart => exact ⟨(0), (by first | rfl | (simp; done) | (simp [*]; done)), H', ⟨Nat.le_refl _⟩, ⟨by (with_reducible repeat (first | refine blk_drewN ?_ _ | refine blk_drew ?_ | refine blk_alloc ?_ _)); exact BK491.out⟩, ⟨by (with_reducible repeat (first | refine blk_drewN ?_ _ | refine blk_drew ?_ | refine blk_alloc ?_ _)); exact BK492.out⟩, ⟨by repeat (first | (with_reducible first | exact HB.out | apply below_alloc | apply pw_below_drewN | apply below_drew1 | refine below_set ?_ GE491.out | refine below_set ?_ GE492.out) | exact HB.out)⟩⟩
        case round =>
          clear H'
          try clear c1
          try clear c2
          try clear p2
          try clear c6
          try clear c6b0
          try clear c6b1
          try clear c7
          try clear c7b0
          try clear c7b1
          try clear c8
          try clear c8b0
          try clear c8b1
          try clear c8b2
          try clear c9
          try clear c12
          try clear c15
          try clear c18
          try clear c21
          try clear hcz10_0
          try clear hcz10_1
          try clear hcz10_2
          try clear hcz10_3
          try clear hcz11_0
          try clear hcz11_1
          try clear hcz11_2
          try clear hcz11_3
          try clear hcz13_0
          try clear hcz13_1
          try clear hcz13_2
          try clear hcz13_3
          try clear hcz14_0
          try clear hcz14_1
          try clear hcz14_2
          try clear hcz14_3
          try clear hcz16_0
          try clear hcz16_1
          try clear hcz16_2
          try clear hcz16_3
          try clear hcz17_0
          try clear hcz17_1
          try clear hcz17_2
          try clear hcz17_3
          try clear hcz19_0
          try clear hcz19_1
          try clear hcz19_2
          try clear hcz19_3
          try clear hcz20_0
          try clear hcz20_1
          try clear hcz20_2
          try clear hcz20_3
          try clear hfz10_0
          try clear hfz10_1
          try clear hfz10_2
          try clear hfz10_3
          try clear hfz11_0
          try clear hfz11_1
          try clear hfz11_2
          try clear hfz11_3
          try clear hfz13_0
          try clear hfz13_1
          try clear hfz13_2
          try clear hfz13_3
          try clear hfz14_0
          try clear hfz14_1
          try clear hfz14_2
          try clear hfz14_3
          try clear hfz16_0
          try clear hfz16_1
          try clear hfz16_2
          try clear hfz16_3
          try clear hfz17_0
          try clear hfz17_1
          try clear hfz17_2
          try clear hfz17_3
          try clear hfz19_0
          try clear hfz19_1
          try clear hfz19_2
          try clear hfz19_3
          try clear hfz20_0
          try clear hfz20_1
          try clear hfz20_2
          try clear hfz20_3
          try clear p2
          obtain ⟨x5_2, rfl, HA, HK2, BK491, BK492, HB⟩ := hrel
          cases gk with
          | zero => exact absurd HA.out (by simp [wicketref04_Equal.l0])
          | succ k2 =>
            have H := HA.out
            clear HA
            simp only [wicketref04_Equal.l0] at H
            by_cases c22 : x5_2 < (l0_2.length : Int)
            · rw [if_pos c22] at H
              have c22b0 : decide (x5_2 < (l0_2.length : Int)) = true := decide_eq_true c22
              clear c22
              by_cases c23 : 0 ≤ x5_2
              · rw [if_pos c23] at H
                have c23b0 : decide (0 ≤ x5_2) = true := decide_eq_true c23
                clear c23
                by_cases c24 : x5_2 < (l1_2.length : Int)
                · rw [if_pos c24] at H
                  have c24b0 : decide (x5_2 < (l1_2.length : Int)) = true := decide_eq_true c24
                  clear c24
                  by_cases c25 : (rdOf ByteArray.empty l0_2 x5_2).toList = (rdOf ByteArray.empty l1_2 x5_2).toList
                  · rw [if_pos c25] at H
                    have c25b0 : ((rdOf ByteArray.empty l0_2 x5_2).toList == (rdOf ByteArray.empty l1_2 x5_2).toList) = true := beq_iff_eq.mpr c25
                    have c25b1 : ((rdOf ByteArray.empty l0_2 x5_2).toList != (rdOf ByteArray.empty l1_2 x5_2).toList) = false := bne_eq_false_iff_eq.mpr c25
                    clear c25
                    have H' := Aside0.mk H
                    clear H
                    have hnb26 := NB491_492.out
                    have hnc26 := NB492_491.out
                    have hcz27_0 : wr.cell? ⟨gb491, 0, none⟩ = some (.int .i64 a0_0) := (blk_cell BK491.out 0).trans rfl
                    have hcz27_1 : wr.cell? ⟨gb491, 1, none⟩ = some (.string a0_1) := (blk_cell BK491.out 1).trans rfl
                    have hcz27_2 : wr.cell? ⟨gb491, 2, none⟩ = some (.slice A0_2 l0_2.length c0_2) := (blk_cell BK491.out 2).trans rfl
                    have hcz27_3 : wr.cell? ⟨gb491, 3, none⟩ = some (.slice A0_3 l0_3.length c0_3) := (blk_cell BK491.out 3).trans rfl
                    have hfz27_0 := blk_frozen BK491.out 0
                    have hfz27_1 := blk_frozen BK491.out 1
                    have hfz27_2 := blk_frozen BK491.out 2
                    have hfz27_3 := blk_frozen BK491.out 3
                    try go_wp2
                    have n0_ := Aside0.mk (blk_drew BK491.out)
                    have n1_ := Aside0.mk (blk_drew BK492.out)
                    have n2_ := Aside0.mk (below_drew1 HB.out)
                    clear BK491
                    clear BK492
                    clear HB
                    have BK491 := n0_
                    have BK492 := n1_
                    have HB := n2_
                    clear n0_ n1_ n2_
                    have p493 : 0 ≤ (x5_2 : Int) := of_decide_eq_true (by first | (with_reducible assumption) | assumption)
                    have q493 : x5_2 < (l0_2.length : Int) := of_decide_eq_true (by first | (with_reducible assumption) | assumption)
                    obtain ⟨ad493, e493, hx493_0⟩ := Kd.at_string HR0_2.out x5_2 p493 q493
                    have hw493_0 := hx493_0
                    cases e493
                    replace hx493_0 := (HB.out.cell (World.block_lt_of_cell? w _ hx493_0)).trans hx493_0
                    replace p493 := eq_true p493
                    replace q493 := eq_true q493
                    have p494 : 0 ≤ (x5_2 : Int) := of_decide_eq_true (by first | (with_reducible assumption) | assumption)
                    have q494 : x5_2 < (l1_2.length : Int) := of_decide_eq_true (by first | (with_reducible assumption) | assumption)
                    obtain ⟨ad494, e494, hx494_0⟩ := Kd.at_string HR1_2.out x5_2 p494 q494
                    have hw494_0 := hx494_0
                    cases e494
                    replace hx494_0 := (HB.out.cell (World.block_lt_of_cell? w _ hx494_0)).trans hx494_0
                    replace p494 := eq_true p494
                    replace q494 := eq_true q494
                    refine start_ (n := 11) (S := fun w' => w'.cell? ⟨gb491, 0, none⟩ = some (.int .i64 a0_0) ∧ w'.cell? ⟨gb491, 1, none⟩ = some (.string a0_1) ∧ w'.cell? ⟨gb491, 2, none⟩ = some (.slice (some ad493) l0_2.length c0_2) ∧ w'.cell? ⟨gb491, 3, none⟩ = some (.slice A0_3 l0_3.length c0_3) ∧ w'.cell? ⟨gb492, 0, none⟩ = some (.int .i64 a1_0) ∧ w'.cell? ⟨gb492, 1, none⟩ = some (.string a1_1) ∧ w'.cell? ⟨gb492, 2, none⟩ = some (.slice (some ad494) l1_2.length c1_2) ∧ w'.cell? ⟨gb492, 3, none⟩ = some (.slice A1_3 l1_3.length c1_3) ∧ w'.cell? (ad493.add (x5_2).toNat) = some (.string (rdOf ByteArray.empty l0_2 x5_2)) ∧ w'.cell? (ad494.add (x5_2).toNat) = some (.string (rdOf ByteArray.empty l1_2 x5_2))) (ds := []) #[false, false, false, false, false, false, false, false, false, false, false] (by kernel_rfl) rfl rfl ⟨(blk_cell BK491.out 0).trans rfl, (blk_cell BK491.out 1).trans rfl, (blk_cell BK491.out 2).trans rfl, (blk_cell BK491.out 3).trans rfl, (blk_cell BK492.out 0).trans rfl, (blk_cell BK492.out 1).trans rfl, (blk_cell BK492.out 2).trans rfl, (blk_cell BK492.out 3).trans rfl, ((HB.out.cell (World.block_lt_of_cell? w _ hw493_0)).trans hw493_0), ((HB.out.cell (World.block_lt_of_cell? w _ hw494_0)).trans hw494_0)⟩ (fun hHeld => ?_); refine with_tabW wicketref04_Equal.tab6 wicketref04_Equal.bits6 (fun HT_ HW_ => ?_)
                    generalize wr.drew = w28 at BK491 BK492 HB hx493_0 hx494_0 hHeld ⊢
                    refine pure_ (i := 0) (N := some 44) (v := ?_) (a' := ?_) #[true, false, false, false, false, false, false, false, false, false, false] rfl rfl (any_of HT_.out (by kernel_rfl)) (fun _ _ _ h => h) (Or.inl ⟨by rfl, ?_⟩) ?_ ?_
                    rotate_left
                    · intro w'
                      go_simp
                      with_reducible rfl
                    rotate_left
                    · simp only [Act.put, List.setIfInBounds_toArray, List.set_cons_zero, List.set_cons_succ, i64_w, i32_w]
                      rfl
                    refine pure_ (i := 2) (N := some 46) (v := ?_) (a' := ?_) #[true, false, true, false, false, false, false, false, false, false, false] rfl rfl (any_of HT_.out (by kernel_rfl)) (fun _ _ _ h => h) (Or.inl ⟨by rfl, ?_⟩) ?_ ?_
                    rotate_left
                    · intro w'
                      go_simp
                      with_reducible rfl
                    rotate_left
                    · simp only [Act.put, List.setIfInBounds_toArray, List.set_cons_zero, List.set_cons_succ, i64_w, i32_w]
                      rfl
                    refine pure_ (i := 5) (N := some 49) (v := ?_) (a' := ?_) #[true, false, true, false, false, true, false, false, false, false, false] rfl rfl (any_of HT_.out (by kernel_rfl)) (fun _ _ _ h => h) (Or.inl ⟨by rfl, ?_⟩) ?_ ?_
                    rotate_left
                    · intro w'
                      go_simp
                      with_reducible rfl
                    rotate_left
                    · simp only [Act.put, List.setIfInBounds_toArray, List.set_cons_zero, List.set_cons_succ, i64_w, i32_w]
                      rfl
                    refine pure_ (i := 7) (N := some 51) (v := ?_) (a' := ?_) #[true, false, true, false, false, true, false, true, false, false, false] rfl rfl (any_of HT_.out (by kernel_rfl)) (fun _ _ _ h => h) (Or.inl ⟨by rfl, ?_⟩) ?_ ?_
                    rotate_left
                    · intro w'
                      go_simp
                      with_reducible rfl
                    rotate_left
                    · simp only [Act.put, List.setIfInBounds_toArray, List.set_cons_zero, List.set_cons_succ, i64_w, i32_w]
                      rfl
                    refine take_ (i := 1) (N := some 45) (v := ?_) (a' := ?_) #[true, true, true, false, false, true, false, true, false, false, false] rfl rfl (take_ofW HT_.out HW_.out (by kernel_rfl)) (fun _ _ _ h => h) (Or.inl ⟨by rfl, ?_⟩) hHeld ?_ ?_
                    rotate_left
                    · rintro w' ⟨s0, s1, s2, s3, s4, s5, s6, s7, s8, s9⟩
                      go_simp
                      with_reducible rfl
                    rotate_left
                    · simp only [Act.put, List.setIfInBounds_toArray, List.set_cons_zero, List.set_cons_succ, i64_w, i32_w]
                      rfl
                    refine pure_ (i := 3) (N := some 47) (v := ?_) (a' := ?_) #[true, true, true, true, false, true, false, true, false, false, false] rfl rfl (any_of HT_.out (by kernel_rfl)) (fun _ _ _ h => h) (Or.inl ⟨by rfl, ?_⟩) ?_ ?_
                    rotate_left
                    · intro w'
                      go_simp
                      with_reducible rfl
                    rotate_left
                    · simp only [Act.put, List.setIfInBounds_toArray, List.set_cons_zero, List.set_cons_succ, i64_w, i32_w]
                      rfl
                    refine take_ (i := 4) (N := some 48) (v := ?_) (a' := ?_) #[true, true, true, true, true, true, false, true, false, false, false] rfl rfl (take_ofW HT_.out HW_.out (by kernel_rfl)) (fun _ _ _ h => h) (Or.inl ⟨by rfl, ?_⟩) hHeld ?_ ?_
                    rotate_left
                    · rintro w' ⟨s0, s1, s2, s3, s4, s5, s6, s7, s8, s9⟩
                      go_simp
                      with_reducible rfl
                    rotate_left
                    · simp only [Act.put, List.setIfInBounds_toArray, List.set_cons_zero, List.set_cons_succ, i64_w, i32_w]
                      rfl
                    refine take_ (i := 6) (N := some 50) (v := ?_) (a' := ?_) #[true, true, true, true, true, true, true, true, false, false, false] rfl rfl (take_ofW HT_.out HW_.out (by kernel_rfl)) (fun _ _ _ h => h) (Or.inl ⟨by rfl, ?_⟩) hHeld ?_ ?_
                    rotate_left
                    · rintro w' ⟨s0, s1, s2, s3, s4, s5, s6, s7, s8, s9⟩
                      go_simp
                      with_reducible rfl
                    rotate_left
                    · simp only [Act.put, List.setIfInBounds_toArray, List.set_cons_zero, List.set_cons_succ, i64_w, i32_w]
                      rfl
                    refine pure_ (i := 8) (N := some 52) (v := ?_) (a' := ?_) #[true, true, true, true, true, true, true, true, true, false, false] rfl rfl (any_of HT_.out (by kernel_rfl)) (fun _ _ _ h => h) (Or.inl ⟨by rfl, ?_⟩) ?_ ?_
                    rotate_left
                    · intro w'
                      go_simp
                      with_reducible rfl
                    rotate_left
                    · simp only [Act.put, List.setIfInBounds_toArray, List.set_cons_zero, List.set_cons_succ, i64_w, i32_w]
                      rfl
                    refine take_ (i := 9) (N := some 53) (v := ?_) (a' := ?_) #[true, true, true, true, true, true, true, true, true, true, false] rfl rfl (take_ofW HT_.out HW_.out (by kernel_rfl)) (fun _ _ _ h => h) (Or.inl ⟨by rfl, ?_⟩) hHeld ?_ ?_
                    rotate_left
                    · rintro w' ⟨s0, s1, s2, s3, s4, s5, s6, s7, s8, s9⟩
                      go_simp
                      with_reducible rfl
                    rotate_left
                    · simp only [Act.put, List.setIfInBounds_toArray, List.set_cons_zero, List.set_cons_succ, i64_w, i32_w]
                      rfl
                    refine pure_ (i := 10) (N := some 54) (v := ?_) (a' := ?_) #[true, true, true, true, true, true, true, true, true, true, true] rfl rfl (any_of HT_.out (by kernel_rfl)) (fun _ _ _ h => h) (Or.inl ⟨by rfl, ?_⟩) ?_ ?_
                    rotate_left
                    · intro w'
                      go_simp
                      with_reducible rfl
                    rotate_left
                    · simp only [Act.put, List.setIfInBounds_toArray, List.set_cons_zero, List.set_cons_succ, i64_w, i32_w]
                      rfl
                    refine done_ (done_of HT_.out (by kernel_rfl)) ?_
                    try go_wp2
                    go_roundg k2
                    case measure => have := HJ2.out; have := HK2.out; omega
                    case rel => exact ⟨(wrap64 (x5_2 + 1)), (by first | rfl | (simp; done) | (simp [*]; done)), H', ⟨by have := HJ2.out; have := HK2.out; omega⟩, ⟨by (with_reducible repeat (first | refine blk_drewN ?_ _ | refine blk_drew ?_ | refine blk_alloc ?_ _)); exact BK491.out⟩, ⟨by (with_reducible repeat (first | refine blk_drewN ?_ _ | refine blk_drew ?_ | refine blk_alloc ?_ _)); exact BK492.out⟩, ⟨by repeat (first | (with_reducible first | exact HB.out | apply below_alloc | apply pw_below_drewN | apply below_drew1 | refine below_set ?_ GE491.out | refine below_set ?_ GE492.out) | exact HB.out)⟩⟩
                  · rw [if_neg c25] at H
                    have c25b0 : ((rdOf ByteArray.empty l0_2 x5_2).toList == (rdOf ByteArray.empty l1_2 x5_2).toList) = false := beq_eq_false_iff_ne.mpr c25
                    have c25b1 : ((rdOf ByteArray.empty l0_2 x5_2).toList != (rdOf ByteArray.empty l1_2 x5_2).toList) = true := bne_iff_ne.mpr c25
                    cases H
                · rw [if_neg c24] at H
                  exact absurd H (by simp)
              · rw [if_neg c23] at H
                exact absurd H (by simp)
            · rw [if_neg c22] at H
              have c22b0 : decide (x5_2 < (l0_2.length : Int)) = false := decide_eq_false c22
              clear c22
              have H' := Aside0.mk H
              clear H
              have hnb32 := NB491_492.out
              have hnc32 := NB492_491.out
              have hcz33_0 : wr.cell? ⟨gb491, 0, none⟩ = some (.int .i64 a0_0) := (blk_cell BK491.out 0).trans rfl
              have hcz33_1 : wr.cell? ⟨gb491, 1, none⟩ = some (.string a0_1) := (blk_cell BK491.out 1).trans rfl
              have hcz33_2 : wr.cell? ⟨gb491, 2, none⟩ = some (.slice A0_2 l0_2.length c0_2) := (blk_cell BK491.out 2).trans rfl
              have hcz33_3 : wr.cell? ⟨gb491, 3, none⟩ = some (.slice A0_3 l0_3.length c0_3) := (blk_cell BK491.out 3).trans rfl
              have hfz33_0 := blk_frozen BK491.out 0
              have hfz33_1 := blk_frozen BK491.out 1
              have hfz33_2 := blk_frozen BK491.out 2
              have hfz33_3 := blk_frozen BK491.out 3
              go_wp2
              go_loopg [6] k2 (fun kq v6 w' => ∃ (x6_3 : Int), v6 = .int .i64 x6_3 ∧ Aside0 (wicketref04_Equal.l1 kq x6_3 a0_0 a0_1 l0_2 l0_3 a1_0 a1_1 l1_2 l1_3 = some r) ∧ Aside0 (kq ≤ k2) ∧ Aside0 (w'.heap[gb491]? = some (.cells #[.int .i64 a0_0, .string a0_1, (.slice A0_2 l0_2.length c0_2), (.slice A0_3 l0_3.length c0_3)] 25 (0, 0))) ∧ Aside0 (w'.heap[gb492]? = some (.cells #[.int .i64 a1_0, .string a1_1, (.slice A1_2 l1_2.length c1_2), (.slice A1_3 l1_3.length c1_3)] 25 (0, 0))) ∧ Aside0 (Below w.heap.size w w'))
              case atStart => exact ⟨(0), (by first | rfl | (simp; done) | (simp [*]; done)), H', ⟨Nat.le_refl _⟩, ⟨by (with_reducible repeat (first | refine blk_drewN ?_ _ | refine blk_drew ?_ | refine blk_alloc ?_ _)); exact BK491.out⟩, ⟨by (with_reducible repeat (first | refine blk_drewN ?_ _ | refine blk_drew ?_ | refine blk_alloc ?_ _)); exact BK492.out⟩, ⟨by repeat (first | (with_reducible first | exact HB.out | apply below_alloc | apply pw_below_drewN | apply below_drew1 | refine below_set ?_ GE491.out | refine below_set ?_ GE492.out) | exact HB.out)⟩⟩
              case round =>
                clear H'
                try clear c1
                try clear c2
                try clear p2
                try clear c3
                try clear p4
                try clear q4
                try clear hx4
                try clear c6
                try clear c6b0
                try clear c6b1
                try clear p6
                try clear c7
                try clear c7b0
                try clear c7b1
                try clear c8
                try clear c8b0
                try clear c8b1
                try clear c8b2
                try clear c9
                try clear c12
                try clear c15
                try clear c18
                try clear c21
                try clear c22
                try clear c22b0
                try clear c23
                try clear c23b0
                try clear c24
                try clear c24b0
                try clear c25
                try clear c25b0
                try clear c25b1
                try clear c26
                try clear c29
                try clear c32
                try clear hcz10_0
                try clear hcz10_1
                try clear hcz10_2
                try clear hcz10_3
                try clear hcz11_0
                try clear hcz11_1
                try clear hcz11_2
                try clear hcz11_3
                try clear hcz13_0
                try clear hcz13_1
                try clear hcz13_2
                try clear hcz13_3
                try clear hcz14_0
                try clear hcz14_1
                try clear hcz14_2
                try clear hcz14_3
                try clear hcz16_0
                try clear hcz16_1
                try clear hcz16_2
                try clear hcz16_3
                try clear hcz17_0
                try clear hcz17_1
                try clear hcz17_2
                try clear hcz17_3
                try clear hcz19_0
                try clear hcz19_1
                try clear hcz19_2
                try clear hcz19_3
                try clear hcz20_0
                try clear hcz20_1
                try clear hcz20_2
                try clear hcz20_3
                try clear hcz27_0
                try clear hcz27_1
                try clear hcz27_2
                try clear hcz27_3
                try clear hcz30_0
                try clear hcz30_1
                try clear hcz30_2
                try clear hcz30_3
                try clear hcz33_0
                try clear hcz33_1
                try clear hcz33_2
                try clear hcz33_3
                try clear hfz10_0
                try clear hfz10_1
                try clear hfz10_2
                try clear hfz10_3
                try clear hfz11_0
                try clear hfz11_1
                try clear hfz11_2
                try clear hfz11_3
                try clear hfz13_0
                try clear hfz13_1
                try clear hfz13_2
                try clear hfz13_3
                try clear hfz14_0
                try clear hfz14_1
                try clear hfz14_2
                try clear hfz14_3
                try clear hfz16_0
                try clear hfz16_1
                try clear hfz16_2
                try clear hfz16_3
                try clear hfz17_0
                try clear hfz17_1
                try clear hfz17_2
                try clear hfz17_3
                try clear hfz19_0
                try clear hfz19_1
                try clear hfz19_2
                try clear hfz19_3
                try clear hfz20_0
                try clear hfz20_1
                try clear hfz20_2
                try clear hfz20_3
                try clear hfz27_0
                try clear hfz27_1
                try clear hfz27_2
                try clear hfz27_3
                try clear hfz30_0
                try clear hfz30_1
                try clear hfz30_2
                try clear hfz30_3
                try clear hfz33_0
                try clear hfz33_1
                try clear hfz33_2
                try clear hfz33_3
                try clear hx493_0
                try clear hx494_0
                try clear p2
                try clear p493
                try clear p494
                try clear q493
                try clear q494
                obtain ⟨x6_3, rfl, HA, HK3, BK491, BK492, HB⟩ := hrel
                cases gk with
                | zero => exact absurd HA.out (by simp [wicketref04_Equal.l1])
                | succ k3 =>
                  have H := HA.out
                  clear HA
                  simp only [wicketref04_Equal.l1] at H
                  by_cases c34 : x6_3 < (l0_3.length : Int)
                  · rw [if_pos c34] at H
                    have c34b0 : decide (x6_3 < (l0_3.length : Int)) = true := decide_eq_true c34
                    clear c34
                    by_cases c35 : 0 ≤ x6_3
                    · rw [if_pos c35] at H
                      have c35b0 : decide (0 ≤ x6_3) = true := decide_eq_true c35
                      clear c35
                      by_cases c36 : x6_3 < (l1_3.length : Int)
                      · rw [if_pos c36] at H
                        have c36b0 : decide (x6_3 < (l1_3.length : Int)) = true := decide_eq_true c36
                        clear c36
                        replace H := Option.bind_eq_some_iff.mp H
                        obtain ⟨t497, A370, H⟩ := H
                        replace H : (if t497 = true then (wicketref04_Equal.l1 k3 (wrap64 (x6_3 + 1)) a0_0 a0_1 l0_2 l0_3 a1_0 a1_1 l1_2 l1_3) else none) = some r := H
                        have A37 := Aside0.mk A370
                        clear A370
                        by_cases c38 : t497 = true
                        · subst c38
                          have H1 : (wicketref04_Equal.l1 k3 (wrap64 (x6_3 + 1)) a0_0 a0_1 l0_2 l0_3 a1_0 a1_1 l1_2 l1_3) = some r := by rw [if_pos rfl] at H; exact H
                          clear H
                          have H := H1
                          clear H1
                          have H' := Aside0.mk H
                          clear H
                          have hnb39 := NB491_492.out
                          have hnc39 := NB492_491.out
                          have hcz40_0 : wr.cell? ⟨gb491, 0, none⟩ = some (.int .i64 a0_0) := (blk_cell BK491.out 0).trans rfl
                          have hcz40_1 : wr.cell? ⟨gb491, 1, none⟩ = some (.string a0_1) := (blk_cell BK491.out 1).trans rfl
                          have hcz40_2 : wr.cell? ⟨gb491, 2, none⟩ = some (.slice A0_2 l0_2.length c0_2) := (blk_cell BK491.out 2).trans rfl
                          have hcz40_3 : wr.cell? ⟨gb491, 3, none⟩ = some (.slice A0_3 l0_3.length c0_3) := (blk_cell BK491.out 3).trans rfl
                          have hfz40_0 := blk_frozen BK491.out 0
                          have hfz40_1 := blk_frozen BK491.out 1
                          have hfz40_2 := blk_frozen BK491.out 2
                          have hfz40_3 := blk_frozen BK491.out 3
                          try go_wp2
                          have n0_ := Aside0.mk (blk_drew BK491.out)
                          have n1_ := Aside0.mk (blk_drew BK492.out)
                          have n2_ := Aside0.mk (below_drew1 HB.out)
                          clear BK491
                          clear BK492
                          clear HB
                          have BK491 := n0_
                          have BK492 := n1_
                          have HB := n2_
                          clear n0_ n1_ n2_
                          have p495 : 0 ≤ (x6_3 : Int) := of_decide_eq_true (by first | (with_reducible assumption) | assumption)
                          have q495 : x6_3 < (l0_3.length : Int) := of_decide_eq_true (by first | (with_reducible assumption) | assumption)
                          obtain ⟨ad495, A495_2, c495_2, A495_3, c495_3, e495, hx495_0, hx495_1, hx495_2, hx495_3, hl495_2, hi495_2, hl495_3, hi495_3⟩ := at_T25 HR0_3.out x6_3 p495 q495
                          have hw495_3 := hx495_3
                          have hw495_2 := hx495_2
                          have hw495_1 := hx495_1
                          have hw495_0 := hx495_0
                          cases e495
                          replace hx495_0 := (HB.out.cell (World.block_lt_of_cell? w _ hx495_0)).trans hx495_0
                          replace hx495_1 := (HB.out.cell (World.block_lt_of_cell? w _ hx495_1)).trans hx495_1
                          replace hx495_2 := (HB.out.cell (World.block_lt_of_cell? w _ hx495_2)).trans hx495_2
                          replace hx495_3 := (HB.out.cell (World.block_lt_of_cell? w _ hx495_3)).trans hx495_3
                          have HR495_2 := Aside0.mk hi495_2
                          have HC495_2 := Aside0.mk hl495_2
                          clear hi495_2 hl495_2
                          have HR495_3 := Aside0.mk hi495_3
                          have HC495_3 := Aside0.mk hl495_3
                          clear hi495_3 hl495_3
                          replace p495 := eq_true p495
                          replace q495 := eq_true q495
                          have p496 : 0 ≤ (x6_3 : Int) := of_decide_eq_true (by first | (with_reducible assumption) | assumption)
                          have q496 : x6_3 < (l1_3.length : Int) := of_decide_eq_true (by first | (with_reducible assumption) | assumption)
                          obtain ⟨ad496, A496_2, c496_2, A496_3, c496_3, e496, hx496_0, hx496_1, hx496_2, hx496_3, hl496_2, hi496_2, hl496_3, hi496_3⟩ := at_T25 HR1_3.out x6_3 p496 q496
                          have hw496_3 := hx496_3
                          have hw496_2 := hx496_2
                          have hw496_1 := hx496_1
                          have hw496_0 := hx496_0
                          cases e496
                          replace hx496_0 := (HB.out.cell (World.block_lt_of_cell? w _ hx496_0)).trans hx496_0
                          replace hx496_1 := (HB.out.cell (World.block_lt_of_cell? w _ hx496_1)).trans hx496_1
                          replace hx496_2 := (HB.out.cell (World.block_lt_of_cell? w _ hx496_2)).trans hx496_2
                          replace hx496_3 := (HB.out.cell (World.block_lt_of_cell? w _ hx496_3)).trans hx496_3
                          have HR496_2 := Aside0.mk hi496_2
                          have HC496_2 := Aside0.mk hl496_2
                          clear hi496_2 hl496_2
                          have HR496_3 := Aside0.mk hi496_3
                          have HC496_3 := Aside0.mk hl496_3
                          clear hi496_3 hl496_3
                          replace p496 := eq_true p496
                          replace q496 := eq_true q496
                          refine start_ (n := 12) (S := fun w' => w'.cell? ⟨gb491, 0, none⟩ = some (.int .i64 a0_0) ∧ w'.cell? ⟨gb491, 1, none⟩ = some (.string a0_1) ∧ w'.cell? ⟨gb491, 2, none⟩ = some (.slice A0_2 l0_2.length c0_2) ∧ w'.cell? ⟨gb491, 3, none⟩ = some (.slice (some ad495) l0_3.length c0_3) ∧ w'.cell? ⟨gb492, 0, none⟩ = some (.int .i64 a1_0) ∧ w'.cell? ⟨gb492, 1, none⟩ = some (.string a1_1) ∧ w'.cell? ⟨gb492, 2, none⟩ = some (.slice A1_2 l1_2.length c1_2) ∧ w'.cell? ⟨gb492, 3, none⟩ = some (.slice (some ad496) l1_3.length c1_3) ∧ w'.cell? (ad495.add ((x6_3).toNat * 4)) = some (.int .i64 ((rd_T25 l0_3 x6_3).f0)) ∧ w'.cell? ⟨(ad495.add ((x6_3).toNat * 4)).block, (ad495.add ((x6_3).toNat * 4)).off + 1, none⟩ = some (.string ((rd_T25 l0_3 x6_3).f1)) ∧ w'.cell? ⟨(ad495.add ((x6_3).toNat * 4)).block, (ad495.add ((x6_3).toNat * 4)).off + 2, none⟩ = some (.slice A495_2 ((rd_T25 l0_3 x6_3).f2).length c495_2) ∧ w'.cell? ⟨(ad495.add ((x6_3).toNat * 4)).block, (ad495.add ((x6_3).toNat * 4)).off + 3, none⟩ = some (.slice A495_3 ((rd_T25 l0_3 x6_3).f3).length c495_3) ∧ w'.cell? (ad496.add ((x6_3).toNat * 4)) = some (.int .i64 ((rd_T25 l1_3 x6_3).f0)) ∧ w'.cell? ⟨(ad496.add ((x6_3).toNat * 4)).block, (ad496.add ((x6_3).toNat * 4)).off + 1, none⟩ = some (.string ((rd_T25 l1_3 x6_3).f1)) ∧ w'.cell? ⟨(ad496.add ((x6_3).toNat * 4)).block, (ad496.add ((x6_3).toNat * 4)).off + 2, none⟩ = some (.slice A496_2 ((rd_T25 l1_3 x6_3).f2).length c496_2) ∧ w'.cell? ⟨(ad496.add ((x6_3).toNat * 4)).block, (ad496.add ((x6_3).toNat * 4)).off + 3, none⟩ = some (.slice A496_3 ((rd_T25 l1_3 x6_3).f3).length c496_3)) (ds := []) #[false, false, false, false, false, false, false, false, false, false, false, false] (by kernel_rfl) rfl rfl ⟨(blk_cell BK491.out 0).trans rfl, (blk_cell BK491.out 1).trans rfl, (blk_cell BK491.out 2).trans rfl, (blk_cell BK491.out 3).trans rfl, (blk_cell BK492.out 0).trans rfl, (blk_cell BK492.out 1).trans rfl, (blk_cell BK492.out 2).trans rfl, (blk_cell BK492.out 3).trans rfl, ((HB.out.cell (World.block_lt_of_cell? w _ hw495_0)).trans hw495_0), ((HB.out.cell (World.block_lt_of_cell? w _ hw495_1)).trans hw495_1), ((HB.out.cell (World.block_lt_of_cell? w _ hw495_2)).trans hw495_2), ((HB.out.cell (World.block_lt_of_cell? w _ hw495_3)).trans hw495_3), ((HB.out.cell (World.block_lt_of_cell? w _ hw496_0)).trans hw496_0), ((HB.out.cell (World.block_lt_of_cell? w _ hw496_1)).trans hw496_1), ((HB.out.cell (World.block_lt_of_cell? w _ hw496_2)).trans hw496_2), ((HB.out.cell (World.block_lt_of_cell? w _ hw496_3)).trans hw496_3)⟩ (fun hHeld => ?_); refine with_tabW wicketref04_Equal.tab11 wicketref04_Equal.bits11 (fun HT_ HW_ => ?_)
                          generalize wr.drew = w41 at BK491 BK492 HB HR495_2 HR495_3 HR496_2 HR496_3 hx495_0 hx495_1 hx495_2 hx495_3 hx496_0 hx496_1 hx496_2 hx496_3 hHeld ⊢
                          refine pure_ (i := 0) (N := some 62) (v := ?_) (a' := ?_) #[true, false, false, false, false, false, false, false, false, false, false, false] rfl rfl (any_of HT_.out (by kernel_rfl)) (fun _ _ _ h => h) (Or.inl ⟨by rfl, ?_⟩) ?_ ?_
                          rotate_left
                          · intro w'
                            go_simp
                            with_reducible rfl
                          rotate_left
                          · simp only [Act.put, List.setIfInBounds_toArray, List.set_cons_zero, List.set_cons_succ, i64_w, i32_w]
                            rfl
                          refine pure_ (i := 2) (N := some 64) (v := ?_) (a' := ?_) #[true, false, true, false, false, false, false, false, false, false, false, false] rfl rfl (any_of HT_.out (by kernel_rfl)) (fun _ _ _ h => h) (Or.inl ⟨by rfl, ?_⟩) ?_ ?_
                          rotate_left
                          · intro w'
                            go_simp
                            with_reducible rfl
                          rotate_left
                          · simp only [Act.put, List.setIfInBounds_toArray, List.set_cons_zero, List.set_cons_succ, i64_w, i32_w]
                            rfl
                          refine pure_ (i := 5) (N := some 67) (v := ?_) (a' := ?_) #[true, false, true, false, false, true, false, false, false, false, false, false] rfl rfl (any_of HT_.out (by kernel_rfl)) (fun _ _ _ h => h) (Or.inl ⟨by rfl, ?_⟩) ?_ ?_
                          rotate_left
                          · intro w'
                            go_simp
                            with_reducible rfl
                          rotate_left
                          · simp only [Act.put, List.setIfInBounds_toArray, List.set_cons_zero, List.set_cons_succ, i64_w, i32_w]
                            rfl
                          refine pure_ (i := 7) (N := some 69) (v := ?_) (a' := ?_) #[true, false, true, false, false, true, false, true, false, false, false, false] rfl rfl (any_of HT_.out (by kernel_rfl)) (fun _ _ _ h => h) (Or.inl ⟨by rfl, ?_⟩) ?_ ?_
                          rotate_left
                          · intro w'
                            go_simp
                            with_reducible rfl
                          rotate_left
                          · simp only [Act.put, List.setIfInBounds_toArray, List.set_cons_zero, List.set_cons_succ, i64_w, i32_w]
                            rfl
                          refine take_ (i := 1) (N := some 63) (v := ?_) (a' := ?_) #[true, true, true, false, false, true, false, true, false, false, false, false] rfl rfl (take_ofW HT_.out HW_.out (by kernel_rfl)) (fun _ _ _ h => h) (Or.inl ⟨by rfl, ?_⟩) hHeld ?_ ?_
                          rotate_left
                          · rintro w' ⟨s0, s1, s2, s3, s4, s5, s6, s7, s8, s9, s10, s11, s12, s13, s14, s15⟩
                            go_simp
                            with_reducible rfl
                          rotate_left
                          · simp only [Act.put, List.setIfInBounds_toArray, List.set_cons_zero, List.set_cons_succ, i64_w, i32_w]
                            rfl
                          refine pure_ (i := 3) (N := some 65) (v := ?_) (a' := ?_) #[true, true, true, true, false, true, false, true, false, false, false, false] rfl rfl (any_of HT_.out (by kernel_rfl)) (fun _ _ _ h => h) (Or.inl ⟨by rfl, ?_⟩) ?_ ?_
                          rotate_left
                          · intro w'
                            go_simp
                            with_reducible rfl
                          rotate_left
                          · simp only [Act.put, List.setIfInBounds_toArray, List.set_cons_zero, List.set_cons_succ, i64_w, i32_w]
                            rfl
                          refine take_ (i := 4) (N := some 66) (v := ?_) (a' := ?_) #[true, true, true, true, true, true, false, true, false, false, false, false] rfl rfl (take_ofW HT_.out HW_.out (by kernel_rfl)) (fun _ _ _ h => h) (Or.inl ⟨by rfl, ?_⟩) hHeld ?_ ?_
                          rotate_left
                          · rintro w' ⟨s0, s1, s2, s3, s4, s5, s6, s7, s8, s9, s10, s11, s12, s13, s14, s15⟩
                            go_simp
                            with_reducible rfl
                          rotate_left
                          · simp only [Act.put, List.setIfInBounds_toArray, List.set_cons_zero, List.set_cons_succ, i64_w, i32_w]
                            rfl
                          refine take_ (i := 6) (N := some 68) (v := ?_) (a' := ?_) #[true, true, true, true, true, true, true, true, false, false, false, false] rfl rfl (take_ofW HT_.out HW_.out (by kernel_rfl)) (fun _ _ _ h => h) (Or.inl ⟨by rfl, ?_⟩) hHeld ?_ ?_
                          rotate_left
                          · rintro w' ⟨s0, s1, s2, s3, s4, s5, s6, s7, s8, s9, s10, s11, s12, s13, s14, s15⟩
                            go_simp
                            with_reducible rfl
                          rotate_left
                          · simp only [Act.put, List.setIfInBounds_toArray, List.set_cons_zero, List.set_cons_succ, i64_w, i32_w]
                            rfl
                          refine pure_ (i := 8) (N := some 70) (v := ?_) (a' := ?_) #[true, true, true, true, true, true, true, true, true, false, false, false] rfl rfl (any_of HT_.out (by kernel_rfl)) (fun _ _ _ h => h) (Or.inl ⟨by rfl, ?_⟩) ?_ ?_
                          rotate_left
                          · intro w'
                            go_simp
                            with_reducible rfl
                          rotate_left
                          · simp only [Act.put, List.setIfInBounds_toArray, List.set_cons_zero, List.set_cons_succ, i64_w, i32_w]
                            rfl
                          refine take_ (i := 9) (N := some 71) (v := ?_) (a' := ?_) #[true, true, true, true, true, true, true, true, true, true, false, false] rfl rfl (take_ofW HT_.out HW_.out (by kernel_rfl)) (fun _ _ _ h => h) (Or.inl ⟨by rfl, ?_⟩) hHeld ?_ ?_
                          rotate_left
                          · rintro w' ⟨s0, s1, s2, s3, s4, s5, s6, s7, s8, s9, s10, s11, s12, s13, s14, s15⟩
                            go_simp
                            with_reducible rfl
                          rotate_left
                          · simp only [Act.put, List.setIfInBounds_toArray, List.set_cons_zero, List.set_cons_succ, i64_w, i32_w]
                            rfl
                          refine one_ (i := 10) (N := some 72) #[true, true, true, true, true, true, true, true, true, true, true, false] rfl rfl (one_of HT_.out (by kernel_rfl)) (by decide) (fun K hK => ?_)
                          refine goes_ Tryd.func15 (by kernel_rfl) rfl #[.agg #[.int .i64 ((rd_T25 l0_3 x6_3).f0), .string ((rd_T25 l0_3 x6_3).f1), .slice A495_2 ((rd_T25 l0_3 x6_3).f2).length c495_2, .slice A495_3 ((rd_T25 l0_3 x6_3).f3).length c495_3], .agg #[.int .i64 ((rd_T25 l1_3 x6_3).f0), .string ((rd_T25 l1_3 x6_3).f1), .slice A496_2 ((rd_T25 l1_3 x6_3).f2).length c496_2, .slice A496_3 ((rd_T25 l1_3 x6_3).f3).length c496_3]] (by rfl) rfl rfl (by (try simp only [List.map_toArray, List.map_cons, List.map_nil]); first | done | rfl | (simp only [List.length_drop, List.length_take]; rfl)) ?_
                          with_reducible refine (ih k3 (by have := HJ2.out; have := HK2.out; have := HK3.out; omega) ((rd_T25 l0_3 x6_3).f0) ((rd_T25 l0_3 x6_3).f1) _ _ ((rd_T25 l0_3 x6_3).f2) _ _ ((rd_T25 l0_3 x6_3).f3) ((rd_T25 l1_3 x6_3).f0) ((rd_T25 l1_3 x6_3).f1) _ _ ((rd_T25 l1_3 x6_3).f2) _ _ ((rd_T25 l1_3 x6_3).f3) true _ ?side1 ?side2 ?side3 ?side4 ?side5 ?side6 ?side7 ?side8 A37.out).mono ?_
                          (case side1 => repeat (first | exact (Kd.C_below HR495_2.out HB.out) | (with_reducible refine Kd.C_alloc ?_ _) | (with_reducible refine Kd.C_drewN ?_ _) | (with_reducible refine Kd.C_drew ?_)))
                          (case side2 => exact HC495_2.out)
                          (case side3 => repeat (first | exact (Kd.C_below HR495_3.out HB.out) | (with_reducible refine Kd.C_alloc ?_ _) | (with_reducible refine Kd.C_drewN ?_ _) | (with_reducible refine Kd.C_drew ?_)))
                          (case side4 => exact HC495_3.out)
                          (case side5 => repeat (first | exact (Kd.C_below HR496_2.out HB.out) | (with_reducible refine Kd.C_alloc ?_ _) | (with_reducible refine Kd.C_drewN ?_ _) | (with_reducible refine Kd.C_drew ?_)))
                          (case side6 => exact HC496_2.out)
                          (case side7 => repeat (first | exact (Kd.C_below HR496_3.out HB.out) | (with_reducible refine Kd.C_alloc ?_ _) | (with_reducible refine Kd.C_drewN ?_ _) | (with_reducible refine Kd.C_drew ?_)))
                          (case side8 => exact HC496_3.out)
                          rintro e w42 ⟨rfl, hb⟩
                          refine ⟨_, rfl, ?_⟩
                          have n0_ := Aside0.mk (blk_below (g := gb491) (o := .cells #[.int .i64 a0_0, .string a0_1, .slice A0_2 l0_2.length c0_2, .slice (some ad495) l0_3.length c0_3] 25 (0, 0)) (by (with_reducible repeat (first | refine blk_drewN ?_ _ | refine blk_drew ?_ | refine blk_alloc ?_ _)); exact BK491.out) hb)
                          have n1_ := Aside0.mk (blk_below (g := gb492) (o := .cells #[.int .i64 a1_0, .string a1_1, .slice A1_2 l1_2.length c1_2, .slice (some ad496) l1_3.length c1_3] 25 (0, 0)) (by (with_reducible repeat (first | refine blk_drewN ?_ _ | refine blk_drew ?_ | refine blk_alloc ?_ _)); exact BK492.out) hb)
                          have n2_ := Aside0.mk (below_step (by repeat (first | (with_reducible first | exact HB.out | apply below_alloc | apply pw_below_drewN | apply below_drew1 | refine below_set ?_ GE491.out | refine below_set ?_ GE492.out) | exact HB.out)) hb)
                          clear BK491
                          clear BK492
                          clear HB
                          have BK491 := n0_
                          have BK492 := n1_
                          have HB := n2_
                          clear n0_ n1_ n2_
                          (try clear hb)
                          (try clear hb2)
                          (try clear hk)
                          (try clear hi)
                          refine hK.out _ _ ⟨(blk_cell BK491.out 0).trans rfl, (blk_cell BK491.out 1).trans rfl, (blk_cell BK491.out 2).trans rfl, (blk_cell BK491.out 3).trans rfl, (blk_cell BK492.out 0).trans rfl, (blk_cell BK492.out 1).trans rfl, (blk_cell BK492.out 2).trans rfl, (blk_cell BK492.out 3).trans rfl, ((HB.out.cell (World.block_lt_of_cell? w _ hw495_0)).trans hw495_0), ((HB.out.cell (World.block_lt_of_cell? w _ hw495_1)).trans hw495_1), ((HB.out.cell (World.block_lt_of_cell? w _ hw495_2)).trans hw495_2), ((HB.out.cell (World.block_lt_of_cell? w _ hw495_3)).trans hw495_3), ((HB.out.cell (World.block_lt_of_cell? w _ hw496_0)).trans hw496_0), ((HB.out.cell (World.block_lt_of_cell? w _ hw496_1)).trans hw496_1), ((HB.out.cell (World.block_lt_of_cell? w _ hw496_2)).trans hw496_2), ((HB.out.cell (World.block_lt_of_cell? w _ hw496_3)).trans hw496_3)⟩ (fun hHeld => ?_)
                          clear hK K
                          refine norm_ (a' := ?_) ?_ ?_
                          rotate_left
                          · show Act.put _ (some 72) _ = _
                            simp only [Act.put, List.setIfInBounds_toArray, List.set_cons_zero, List.set_cons_succ, i64_w, i32_w]
                            rfl
                          refine pure_ (i := 11) (N := some 73) (v := ?_) (a' := ?_) #[true, true, true, true, true, true, true, true, true, true, true, true] rfl rfl (any_of HT_.out (by kernel_rfl)) (fun _ _ _ h => h) (Or.inl ⟨by rfl, ?_⟩) ?_ ?_
                          rotate_left
                          · intro w'
                            go_simp
                            with_reducible rfl
                          rotate_left
                          · simp only [Act.put, List.setIfInBounds_toArray, List.set_cons_zero, List.set_cons_succ, i64_w, i32_w]
                            rfl
                          refine done_ (done_of HT_.out (by kernel_rfl)) ?_
                          try go_wp2
                          go_roundg k3
                          case measure => have := HJ2.out; have := HK2.out; have := HK3.out; omega
                          case rel => exact ⟨(wrap64 (x6_3 + 1)), (by first | rfl | (simp; done) | (simp [*]; done)), H', ⟨by have := HJ2.out; have := HK2.out; have := HK3.out; omega⟩, ⟨by (with_reducible repeat (first | refine blk_drewN ?_ _ | refine blk_drew ?_ | refine blk_alloc ?_ _)); exact BK491.out⟩, ⟨by (with_reducible repeat (first | refine blk_drewN ?_ _ | refine blk_drew ?_ | refine blk_alloc ?_ _)); exact BK492.out⟩, ⟨by repeat (first | (with_reducible first | exact HB.out | apply below_alloc | apply pw_below_drewN | apply below_drew1 | refine below_set ?_ GE491.out | refine below_set ?_ GE492.out) | exact HB.out)⟩⟩
                        · replace c38 := Bool.eq_false_iff.mpr c38
                          subst c38
                          have H1 : none = some r := by rw [if_neg (show ¬ (false = true) by decide)] at H; exact H
                          clear H
                          have H := H1
                          clear H1
                          cases H
                      · rw [if_neg c36] at H
                        exact absurd H (by simp)
                    · rw [if_neg c35] at H
                      exact absurd H (by simp)
                  · rw [if_neg c34] at H
                    have c34b0 : decide (x6_3 < (l0_3.length : Int)) = false := decide_eq_false c34
                    clear c34
                    obtain rfl := Option.some.inj H
                    have hnb47 := NB491_492.out
                    have hnc47 := NB492_491.out
                    have hcz48_0 : wr.cell? ⟨gb491, 0, none⟩ = some (.int .i64 a0_0) := (blk_cell BK491.out 0).trans rfl
                    have hcz48_1 : wr.cell? ⟨gb491, 1, none⟩ = some (.string a0_1) := (blk_cell BK491.out 1).trans rfl
                    have hcz48_2 : wr.cell? ⟨gb491, 2, none⟩ = some (.slice A0_2 l0_2.length c0_2) := (blk_cell BK491.out 2).trans rfl
                    have hcz48_3 : wr.cell? ⟨gb491, 3, none⟩ = some (.slice A0_3 l0_3.length c0_3) := (blk_cell BK491.out 3).trans rfl
                    have hfz48_0 := blk_frozen BK491.out 0
                    have hfz48_1 := blk_frozen BK491.out 1
                    have hfz48_2 := blk_frozen BK491.out 2
                    have hfz48_3 := blk_frozen BK491.out 3
                    go_wp2
                    go_ret
                    exact ⟨by first | rfl | (simp [errW_none, errW_some] <;> rfl) | (simp [*, errW_none, errW_some] <;> rfl), by repeat (first | (with_reducible first | exact HB.out | apply below_alloc | apply pw_below_drewN | apply below_drew1 | refine below_set ?_ GE491.out | refine below_set ?_ GE492.out) | exact HB.out)⟩

end Go.Proofs.YtaalajhmfdcalaaDoor.X
namespace Go.Proofs.YtaalajhmfdcalaaDoor.X
open Go.RowKit Go.Lib Go.Proofs.YtaalajhmfdcalaaDoorW.PrintWords
/-! Equal -/
theorem equal_l1 (v : J) (hl : v.f3.length ≤ 9223372036854775806) (ih : ∀ y, y ∈ v.f3 → ∃ K, ∀ k, K ≤ k → wicketref04_Equal.f k y.f0 y.f1 y.f2 y.f3 y.f0 y.f1 y.f2 y.f3 = some true) :
    ∀ (d i : Nat), i + d = v.f3.length → ∃ K, ∀ k, K ≤ k → wicketref04_Equal.l1 k (i : Int) v.f0 v.f1 v.f2 v.f3 v.f0 v.f1 v.f2 v.f3 = some true
  | 0, i, h => ⟨1, fun k hk => by
      obtain ⟨k, rfl, _⟩ := ge_succ hk
      rw [wicketref04_Equal.l1, if_neg (by omega)]⟩
  | d + 1, i, h => by
    obtain ⟨K1, h1⟩ := equal_l1 v hl ih d (i + 1) (by omega)
    have hi : i < v.f3.length := by omega
    obtain ⟨K2, h2⟩ := ih _ (List.getElem_mem hi)
    refine ⟨max K1 K2 + 1, fun k hk => ?_⟩
    obtain ⟨k, rfl, hj⟩ := ge_succ hk
    rw [wicketref04_Equal.l1, if_pos (by omega), if_pos (by omega), if_pos (by omega), rd_nat _ _ hi, h2 k (by omega)]
    simp only [Option.bind_some, if_true]
    rw [wrap_id _ (by omega) (by omega)]
    exact h1 k (by omega)
theorem equal_l0 (v : J) (hl : v.f2.length ≤ 9223372036854775806) {K0 : Nat} (h0 : ∀ k, K0 ≤ k → wicketref04_Equal.l1 k 0 v.f0 v.f1 v.f2 v.f3 v.f0 v.f1 v.f2 v.f3 = some true) :
    ∀ (d i : Nat), i + d = v.f2.length → ∃ K, ∀ k, K ≤ k → wicketref04_Equal.l0 k (i : Int) v.f0 v.f1 v.f2 v.f3 v.f0 v.f1 v.f2 v.f3 = some true
  | 0, i, h => ⟨K0 + 1, fun k hk => by
      obtain ⟨k, rfl, hj⟩ := ge_succ hk
      rw [wicketref04_Equal.l0, if_neg (by omega)]
      exact h0 k hj⟩
  | d + 1, i, h => by
    obtain ⟨K1, h1⟩ := equal_l0 v hl h0 d (i + 1) (by omega)
    refine ⟨K1 + 1, fun k hk => ?_⟩
    obtain ⟨k, rfl, hj⟩ := ge_succ hk
    rw [wicketref04_Equal.l0, if_pos (by omega), if_pos (by omega), if_pos (by omega), if_pos rfl, wrap_id _ (by omega) (by omega)]
    exact h1 k hj
theorem equal_self {B L : Nat} (hL : L ≤ 9223372036854775806) {v : J} (h : Bd B L v) : ∃ K, ∀ k, K ≤ k → wicketref04_Equal.f k v.f0 v.f1 v.f2 v.f3 v.f0 v.f1 v.f2 v.f3 = some true := by
  induction h with
  | mk f0 f1 f2 f3 _ _ h2 h3 _ ih =>
    obtain ⟨K1, h1⟩ := equal_l1 ⟨f0, f1, f2, f3⟩ (by show f3.length ≤ _; omega) ih f3.length 0 (by show 0 + f3.length = f3.length; omega)
    obtain ⟨K0, h0⟩ := equal_l0 ⟨f0, f1, f2, f3⟩ (by show f2.length ≤ _; omega) h1 f2.length 0 (by show 0 + f2.length = f2.length; omega)
    refine ⟨K0 + 2, fun k hk => ?_⟩
    obtain ⟨k, rfl, hj⟩ := ge_succ hk
    rw [wicketref04_Equal.f, if_pos rfl, if_pos rfl, if_pos rfl]
    obtain ⟨k, rfl, hi⟩ := ge_succ hj
    rw [wicketref04_Equal.j0, if_neg (by simp)]
    exact h0 k (by omega)
end Go.Proofs.YtaalajhmfdcalaaDoor.X
namespace Go.Proofs.YtaalajhmfdcalaaDoor.X
end Go.Proofs.YtaalajhmfdcalaaDoor.X
namespace Go.Proofs.YtaalajhmfdcalaaDoor.X
open Go.RowKit Go.Proofs.YtaalajhmfdcalaaDoor.X Go.Proofs.YtaalajhmfdcalaaDoorW.PrintWords Go.Proofs.YtaalajhmfdcalaaDoorW.PrintLast Go.Proofs.YtaalajhmfdcalaaDoorW.PrintMore
attribute [local go_sem] max2_int min2_int max_two min_two max_three min_three max_four min_four   -- for this text's walks alone
set_option linter.unusedVariables false
set_option linter.unusedSimpArgs false

/-! ### wicketlaw04_JtextForm: function 8 -/
def wicketlaw04_JtextForm.f (k : Nat) (a0 : ByteArray) : Option (Bool) := (jtext_Parse.f a0).bind fun bt135 => ((wicketlaw04_num.f bt135.2.2.2.2.1).bind fun t146 => (if t146 = 0 then ((jtext_Print.f bt135.1 bt135.2.1 bt135.2.2.1 bt135.2.2.2.1).bind fun bt148 => ((wicketlaw04_num.f bt148.2).bind fun t150 => (if t150 = 0 then ((jtext_Parse.f bt148.1).bind fun bt153 => ((jtext_Print.f bt153.1 bt153.2.1 bt153.2.2.1 bt153.2.2.2.1).bind fun bt164 => ((wicketlaw04_live.f).bind fun t166 => (if t166 = true then ((wicketlaw04_num.f bt153.2.2.2.2.1).bind fun t167 => (if t167 = 0 then ((wicketref04_Equal.f k bt135.1 bt135.2.1 bt135.2.2.1 bt135.2.2.2.1 bt153.1 bt153.2.1 bt153.2.2.1 bt153.2.2.2.1).bind fun t168 => (if t168 = true then ((wicketlaw04_num.f bt164.2).bind fun t169 => (if t169 = 0 then (if bt164.1.toList = bt148.1.toList then ((jtext_Same.f bt135.1 bt135.2.1 bt135.2.2.1 bt135.2.2.2.1 bt153.1 bt153.2.1 bt153.2.2.1 bt153.2.2.2.1).bind fun t170 => (some t170)) else none) else none)) else none)) else none)) else none)))) else ((wicketlaw04_live.f).bind fun t151 => (if t151 = true then ((wicketlaw04_num.f bt148.2).bind fun t152 => (some (t152 == 1))) else none))))) else ((wicketlaw04_live.f).bind fun t147 => (some t147))))
theorem wicketlaw04_JtextForm.mono : ∀ a0 k, LeO (wicketlaw04_JtextForm.f k a0) (wicketlaw04_JtextForm.f (k + 1) a0) := by
  intro a0 k
  unfold wicketlaw04_JtextForm.f
  repeat' first
      | (with_reducible exact wicketref04_Equal.mono _ _ _ _ _ _ _ _ _)
      | (with_reducible exact LeO.refl _)
      | (with_reducible exact LeO.none _)
      | (with_reducible refine LeO.ite ?_ ?_)
      | (with_reducible refine LeO.bind ?_ (fun _ => ?_))
      | exact wicketref04_Equal.mono _ _ _ _ _ _ _ _ _
      | exact LeO.none _
      | refine LeO.ite ?_ ?_
      | refine LeO.bind ?_ (fun _ => ?_)
set_option maxHeartbeats 8000000 in
set_option maxRecDepth 100000 in
theorem wicketlaw04_JtextForm.calls (k : Nat) (a0 : ByteArray) (r : Bool) (w : World) (hG : GL w) (h : wicketlaw04_JtextForm.f k a0 = some r) :
    Calls Tryd.prog 8 #[.string a0] w fun e w' => e = .returned (.bool r) ∧ Below w.heap.size w w' := by
  have hu25 := Tryd.underlying25
  have HB := Aside0.mk (Below.refl w.heap.size w)
  have HG := Aside0.mk hG
  clear hG
  have H : ((jtext_Parse.f a0).bind fun bt135 => ((wicketlaw04_num.f bt135.2.2.2.2.1).bind fun t146 => (if t146 = 0 then ((jtext_Print.f bt135.1 bt135.2.1 bt135.2.2.1 bt135.2.2.2.1).bind fun bt148 => ((wicketlaw04_num.f bt148.2).bind fun t150 => (if t150 = 0 then ((jtext_Parse.f bt148.1).bind fun bt153 => ((jtext_Print.f bt153.1 bt153.2.1 bt153.2.2.1 bt153.2.2.2.1).bind fun bt164 => ((wicketlaw04_live.f).bind fun t166 => (if t166 = true then ((wicketlaw04_num.f bt153.2.2.2.2.1).bind fun t167 => (if t167 = 0 then ((wicketref04_Equal.f k bt135.1 bt135.2.1 bt135.2.2.1 bt135.2.2.2.1 bt153.1 bt153.2.1 bt153.2.2.1 bt153.2.2.2.1).bind fun t168 => (if t168 = true then ((wicketlaw04_num.f bt164.2).bind fun t169 => (if t169 = 0 then (if bt164.1.toList = bt148.1.toList then ((jtext_Same.f bt135.1 bt135.2.1 bt135.2.2.1 bt135.2.2.2.1 bt153.1 bt153.2.1 bt153.2.2.1 bt153.2.2.2.1).bind fun t170 => (some t170)) else none) else none)) else none)) else none)) else none)))) else ((wicketlaw04_live.f).bind fun t151 => (if t151 = true then ((wicketlaw04_num.f bt148.2).bind fun t152 => (some (t152 == 1))) else none))))) else ((wicketlaw04_live.f).bind fun t147 => (some t147))))) = some r := h
  clear h
  replace H := Option.bind_eq_some_iff.mp H
  obtain ⟨⟨t135, t136, t137, t140, t143, t144⟩, A20, H⟩ := H
  replace H : ((wicketlaw04_num.f t143).bind fun t146 => (if t146 = 0 then ((jtext_Print.f t135 t136 t137 t140).bind fun bt148 => ((wicketlaw04_num.f bt148.2).bind fun t150 => (if t150 = 0 then ((jtext_Parse.f bt148.1).bind fun bt153 => ((jtext_Print.f bt153.1 bt153.2.1 bt153.2.2.1 bt153.2.2.2.1).bind fun bt164 => ((wicketlaw04_live.f).bind fun t166 => (if t166 = true then ((wicketlaw04_num.f bt153.2.2.2.2.1).bind fun t167 => (if t167 = 0 then ((wicketref04_Equal.f k t135 t136 t137 t140 bt153.1 bt153.2.1 bt153.2.2.1 bt153.2.2.2.1).bind fun t168 => (if t168 = true then ((wicketlaw04_num.f bt164.2).bind fun t169 => (if t169 = 0 then (if bt164.1.toList = bt148.1.toList then ((jtext_Same.f t135 t136 t137 t140 bt153.1 bt153.2.1 bt153.2.2.1 bt153.2.2.2.1).bind fun t170 => (some t170)) else none) else none)) else none)) else none)) else none)))) else ((wicketlaw04_live.f).bind fun t151 => (if t151 = true then ((wicketlaw04_num.f bt148.2).bind fun t152 => (some (t152 == 1))) else none))))) else ((wicketlaw04_live.f).bind fun t147 => (some t147)))) = some r := H
  have A2 := Aside0.mk A20
  clear A20
  replace H := Option.bind_eq_some_iff.mp H
  obtain ⟨t146, A30, H⟩ := H
  obtain rfl : t143 = t146 := Option.some.inj A30
  replace H : (if t143 = 0 then ((jtext_Print.f t135 t136 t137 t140).bind fun bt148 => ((wicketlaw04_num.f bt148.2).bind fun t150 => (if t150 = 0 then ((jtext_Parse.f bt148.1).bind fun bt153 => ((jtext_Print.f bt153.1 bt153.2.1 bt153.2.2.1 bt153.2.2.2.1).bind fun bt164 => ((wicketlaw04_live.f).bind fun t166 => (if t166 = true then ((wicketlaw04_num.f bt153.2.2.2.2.1).bind fun t167 => (if t167 = 0 then ((wicketref04_Equal.f k t135 t136 t137 t140 bt153.1 bt153.2.1 bt153.2.2.1 bt153.2.2.2.1).bind fun t168 => (if t168 = true then ((wicketlaw04_num.f bt164.2).bind fun t169 => (if t169 = 0 then (if bt164.1.toList = bt148.1.toList then ((jtext_Same.f t135 t136 t137 t140 bt153.1 bt153.2.1 bt153.2.2.1 bt153.2.2.2.1).bind fun t170 => (some t170)) else none) else none)) else none)) else none)) else none)))) else ((wicketlaw04_live.f).bind fun t151 => (if t151 = true then ((wicketlaw04_num.f bt148.2).bind fun t152 => (some (t152 == 1))) else none))))) else ((wicketlaw04_live.f).bind fun t147 => (some t147))) = some r := H
  have A3 := Aside0.mk A30
  clear A30
  by_cases c4 : t143 = 0
  · rw [if_pos c4] at H
    have c4b0 : (t143 == 0) = true := beq_iff_eq.mpr c4
    have c4b1 : (t143 != 0) = false := bne_eq_false_iff_eq.mpr c4
    clear c4
    replace H := Option.bind_eq_some_iff.mp H
    obtain ⟨⟨t148, t149⟩, A50, H⟩ := H
    replace H : ((wicketlaw04_num.f t149).bind fun t150 => (if t150 = 0 then ((jtext_Parse.f t148).bind fun bt153 => ((jtext_Print.f bt153.1 bt153.2.1 bt153.2.2.1 bt153.2.2.2.1).bind fun bt164 => ((wicketlaw04_live.f).bind fun t166 => (if t166 = true then ((wicketlaw04_num.f bt153.2.2.2.2.1).bind fun t167 => (if t167 = 0 then ((wicketref04_Equal.f k t135 t136 t137 t140 bt153.1 bt153.2.1 bt153.2.2.1 bt153.2.2.2.1).bind fun t168 => (if t168 = true then ((wicketlaw04_num.f bt164.2).bind fun t169 => (if t169 = 0 then (if bt164.1.toList = t148.toList then ((jtext_Same.f t135 t136 t137 t140 bt153.1 bt153.2.1 bt153.2.2.1 bt153.2.2.2.1).bind fun t170 => (some t170)) else none) else none)) else none)) else none)) else none)))) else ((wicketlaw04_live.f).bind fun t151 => (if t151 = true then ((wicketlaw04_num.f t149).bind fun t152 => (some (t152 == 1))) else none)))) = some r := H
    have A5 := Aside0.mk A50
    clear A50
    replace H := Option.bind_eq_some_iff.mp H
    obtain ⟨t150, A60, H⟩ := H
    obtain rfl : t149 = t150 := Option.some.inj A60
    replace H : (if t149 = 0 then ((jtext_Parse.f t148).bind fun bt153 => ((jtext_Print.f bt153.1 bt153.2.1 bt153.2.2.1 bt153.2.2.2.1).bind fun bt164 => ((wicketlaw04_live.f).bind fun t166 => (if t166 = true then ((wicketlaw04_num.f bt153.2.2.2.2.1).bind fun t167 => (if t167 = 0 then ((wicketref04_Equal.f k t135 t136 t137 t140 bt153.1 bt153.2.1 bt153.2.2.1 bt153.2.2.2.1).bind fun t168 => (if t168 = true then ((wicketlaw04_num.f bt164.2).bind fun t169 => (if t169 = 0 then (if bt164.1.toList = t148.toList then ((jtext_Same.f t135 t136 t137 t140 bt153.1 bt153.2.1 bt153.2.2.1 bt153.2.2.2.1).bind fun t170 => (some t170)) else none) else none)) else none)) else none)) else none)))) else ((wicketlaw04_live.f).bind fun t151 => (if t151 = true then ((wicketlaw04_num.f t149).bind fun t152 => (some (t152 == 1))) else none))) = some r := H
    have A6 := Aside0.mk A60
    clear A60
    by_cases c7 : t149 = 0
    · rw [if_pos c7] at H
      have c7b0 : (t149 == 0) = true := beq_iff_eq.mpr c7
      have c7b1 : (t149 != 0) = false := bne_eq_false_iff_eq.mpr c7
      clear c7
      replace H := Option.bind_eq_some_iff.mp H
      obtain ⟨⟨t153, t154, t155, t158, t161, t162⟩, A80, H⟩ := H
      replace H : ((jtext_Print.f t153 t154 t155 t158).bind fun bt164 => ((wicketlaw04_live.f).bind fun t166 => (if t166 = true then ((wicketlaw04_num.f t161).bind fun t167 => (if t167 = 0 then ((wicketref04_Equal.f k t135 t136 t137 t140 t153 t154 t155 t158).bind fun t168 => (if t168 = true then ((wicketlaw04_num.f bt164.2).bind fun t169 => (if t169 = 0 then (if bt164.1.toList = t148.toList then ((jtext_Same.f t135 t136 t137 t140 t153 t154 t155 t158).bind fun t170 => (some t170)) else none) else none)) else none)) else none)) else none))) = some r := H
      have A8 := Aside0.mk A80
      clear A80
      replace H := Option.bind_eq_some_iff.mp H
      obtain ⟨⟨t164, t165⟩, A90, H⟩ := H
      replace H : ((wicketlaw04_live.f).bind fun t166 => (if t166 = true then ((wicketlaw04_num.f t161).bind fun t167 => (if t167 = 0 then ((wicketref04_Equal.f k t135 t136 t137 t140 t153 t154 t155 t158).bind fun t168 => (if t168 = true then ((wicketlaw04_num.f t165).bind fun t169 => (if t169 = 0 then (if t164.toList = t148.toList then ((jtext_Same.f t135 t136 t137 t140 t153 t154 t155 t158).bind fun t170 => (some t170)) else none) else none)) else none)) else none)) else none)) = some r := H
      have A9 := Aside0.mk A90
      clear A90
      replace H := Option.bind_eq_some_iff.mp H
      obtain ⟨t166, A100, H⟩ := H
      replace H : (if t166 = true then ((wicketlaw04_num.f t161).bind fun t167 => (if t167 = 0 then ((wicketref04_Equal.f k t135 t136 t137 t140 t153 t154 t155 t158).bind fun t168 => (if t168 = true then ((wicketlaw04_num.f t165).bind fun t169 => (if t169 = 0 then (if t164.toList = t148.toList then ((jtext_Same.f t135 t136 t137 t140 t153 t154 t155 t158).bind fun t170 => (some t170)) else none) else none)) else none)) else none)) else none) = some r := H
      have A10 := Aside0.mk A100
      clear A100
      by_cases c11 : t166 = true
      · subst c11
        have H1 : ((wicketlaw04_num.f t161).bind fun t167 => (if t167 = 0 then ((wicketref04_Equal.f k t135 t136 t137 t140 t153 t154 t155 t158).bind fun t168 => (if t168 = true then ((wicketlaw04_num.f t165).bind fun t169 => (if t169 = 0 then (if t164.toList = t148.toList then ((jtext_Same.f t135 t136 t137 t140 t153 t154 t155 t158).bind fun t170 => (some t170)) else none) else none)) else none)) else none)) = some r := by rw [if_pos rfl] at H; exact H
        clear H
        have H := H1
        clear H1
        replace H := Option.bind_eq_some_iff.mp H
        obtain ⟨t167, A120, H⟩ := H
        obtain rfl : t161 = t167 := Option.some.inj A120
        replace H : (if t161 = 0 then ((wicketref04_Equal.f k t135 t136 t137 t140 t153 t154 t155 t158).bind fun t168 => (if t168 = true then ((wicketlaw04_num.f t165).bind fun t169 => (if t169 = 0 then (if t164.toList = t148.toList then ((jtext_Same.f t135 t136 t137 t140 t153 t154 t155 t158).bind fun t170 => (some t170)) else none) else none)) else none)) else none) = some r := H
        have A12 := Aside0.mk A120
        clear A120
        by_cases c13 : t161 = 0
        · rw [if_pos c13] at H
          have c13b0 : (t161 == 0) = true := beq_iff_eq.mpr c13
          have c13b1 : (t161 != 0) = false := bne_eq_false_iff_eq.mpr c13
          clear c13
          replace H := Option.bind_eq_some_iff.mp H
          obtain ⟨t168, A140, H⟩ := H
          replace H : (if t168 = true then ((wicketlaw04_num.f t165).bind fun t169 => (if t169 = 0 then (if t164.toList = t148.toList then ((jtext_Same.f t135 t136 t137 t140 t153 t154 t155 t158).bind fun t170 => (some t170)) else none) else none)) else none) = some r := H
          have A14 := Aside0.mk A140
          clear A140
          by_cases c15 : t168 = true
          · subst c15
            have H1 : ((wicketlaw04_num.f t165).bind fun t169 => (if t169 = 0 then (if t164.toList = t148.toList then ((jtext_Same.f t135 t136 t137 t140 t153 t154 t155 t158).bind fun t170 => (some t170)) else none) else none)) = some r := by rw [if_pos rfl] at H; exact H
            clear H
            have H := H1
            clear H1
            replace H := Option.bind_eq_some_iff.mp H
            obtain ⟨t169, A160, H⟩ := H
            obtain rfl : t165 = t169 := Option.some.inj A160
            replace H : (if t165 = 0 then (if t164.toList = t148.toList then ((jtext_Same.f t135 t136 t137 t140 t153 t154 t155 t158).bind fun t170 => (some t170)) else none) else none) = some r := H
            have A16 := Aside0.mk A160
            clear A160
            by_cases c17 : t165 = 0
            · rw [if_pos c17] at H
              have c17b0 : (t165 == 0) = true := beq_iff_eq.mpr c17
              have c17b1 : (t165 != 0) = false := bne_eq_false_iff_eq.mpr c17
              clear c17
              by_cases c18 : t164.toList = t148.toList
              · rw [if_pos c18] at H
                have c18b0 : (t164.toList == t148.toList) = true := beq_iff_eq.mpr c18
                have c18b1 : (t164.toList != t148.toList) = false := bne_eq_false_iff_eq.mpr c18
                clear c18
                replace H := Option.bind_eq_some_iff.mp H
                obtain ⟨t170, A190, H⟩ := H
                replace H : (some t170) = some r := H
                have A19 := Aside0.mk A190
                clear A190
                obtain rfl := Option.some.inj H
                go_enter Tryd.func8, Tryd.ntmps8
                go_wp2_with (first | ((with_reducible refine gate_callee (f := 11) rfl ?_); refine goesL_ (some 15) rfl rfl Tryd.func11 (by kernel_rfl) rfl #[.string a0] rfl (by (try simp only [List.map_toArray, List.map_cons, List.map_nil]); first | done | rfl | (simp only [List.length_drop, List.length_take]; rfl)) ?_; (with_reducible refine (jtext_Parse.calls a0 t135 t136 t137 t140 t143 t144 _ ?side1 A2.out).mono ?_); (case side1 => exact GL_below HG.out (by repeat (first | (with_reducible first | exact HB.out | apply below_alloc | apply pw_below_drewN | apply below_drew1) | exact HB.out))); rintro e w20 ⟨v138, v141, rfl, ho0, ho1, hb⟩; refine ⟨_, rfl, ?_⟩; have n0_ := Aside0.mk (Kd.R_lower ho0 (below_size (by repeat (first | (with_reducible first | exact HB.out | apply below_alloc | apply pw_below_drewN | apply below_drew1) | exact HB.out)))); have n1_ := Aside0.mk (Kd.R_lower ho1 (below_size (by repeat (first | (with_reducible first | exact HB.out | apply below_alloc | apply pw_below_drewN | apply below_drew1) | exact HB.out)))); have n2_ := Aside0.mk (below_step (by repeat (first | (with_reducible first | exact HB.out | apply below_alloc | apply pw_below_drewN | apply below_drew1) | exact HB.out)) hb); clear HB; have HO139 := n0_; have HO142 := n1_; have HB := n2_; clear n0_ n1_ n2_; (try clear hb); (try clear hb2); (try clear hk); (try clear hi); (try clear ho0); (try clear ho1)) | ((with_reducible refine gate_dst (N := 3) rfl ?_); refine box_event ?hg (N := 3) ?hd (cs := #[.int .i64 0, .string (⟨#[]⟩ : ByteArray), .slice none 0 0, .slice none 0 0]) (t := 25) ?hr ?_; (case hd => rfl); (case hg => rfl); (case hr => first | (go_simp; done) | (go_simp; rfl)); intro gb145 hg w21 hbox hb; have n0_ := Aside0.mk (Kd.R_below (by (with_reducible repeat (first | apply Kd.R_alloc | apply Kd.R_drewN | apply Kd.R_drew)); exact HO139.out) hb); have n1_ := Aside0.mk (Kd.R_below (Kd.R_elderB (by (with_reducible repeat (first | apply Kd.R_alloc | apply Kd.R_drewN | apply Kd.R_drew)); exact HO142.out) gb145 (Nat.le_of_eq hg.symm)) hb); have n2_ := Aside0.mk (below_step (by repeat (first | (with_reducible first | exact HB.out | apply below_alloc | apply pw_below_drewN | apply below_drew1) | exact HB.out)) hb); have n3_ := Aside0.mk (hbox); have n4_ := Aside0.mk ((by rw [hg]; exact (below_size (by repeat (first | (with_reducible first | exact HB.out | apply below_alloc | apply pw_below_drewN | apply below_drew1) | exact HB.out))) : w.heap.size ≤ gb145)); have n5_ := Aside0.mk ((by rw [hg]; exact (below_size (by repeat (first | (with_reducible first | exact HB.out | apply below_alloc | apply pw_below_drewN | apply below_drew1) | exact HB.out))) : w.heap.size ≤ gb145)); clear HO139; clear HO142; clear HB; have HO139 := n0_; have HO142 := n1_; have HB := n2_; have BK145 := n3_; have GW145 := n4_; have GE145 := n5_; clear n0_ n1_ n2_ n3_ n4_ n5_; clear hb hbox hg; have hcz22_0 : w21.cell? ⟨gb145, 0, none⟩ = some (.int .i64 0) := (blk_cell BK145.out 0).trans rfl; have hcz22_1 : w21.cell? ⟨gb145, 1, none⟩ = some (.string (⟨#[]⟩ : ByteArray)) := (blk_cell BK145.out 1).trans rfl; have hcz22_2 : w21.cell? ⟨gb145, 2, none⟩ = some (.slice none 0 0) := (blk_cell BK145.out 2).trans rfl; have hcz22_3 : w21.cell? ⟨gb145, 3, none⟩ = some (.slice none 0 0) := (blk_cell BK145.out 3).trans rfl; have hfz22_0 := blk_frozen BK145.out 0; have hfz22_1 := blk_frozen BK145.out 1; have hfz22_2 := blk_frozen BK145.out 2; have hfz22_3 := blk_frozen BK145.out 3; obtain ⟨Ao23, co23, eo23⟩ := Kd.R_slice HO139.out; subst eo23; obtain ⟨Ao24, co24, eo24⟩ := Kd.R_slice HO142.out; subst eo24) | ((with_reducible refine gate_callee (f := 14) rfl ?_); refine goesL_ (some 20) rfl rfl Tryd.func14 (by kernel_rfl) rfl #[.int .i64 t143] rfl (by (try simp only [List.map_toArray, List.map_cons, List.map_nil]); first | done | rfl | (simp only [List.length_drop, List.length_take]; rfl)) ?_; (with_reducible refine (wicketlaw04_num.calls t143 t143 _ A3.out).mono ?_); rintro e w' ⟨rfl, ⟨nd, rfl⟩⟩; refine ⟨_, rfl, ?_⟩) | ((with_reducible refine gate_callee (f := 17) rfl ?_); refine goesL_ (some 25) rfl rfl Tryd.func17 (by kernel_rfl) rfl #[.agg #[.int .i64 t135, .string t136, .slice Ao23 t137.length co23, .slice Ao24 t140.length co24]] rfl (by (try simp only [List.map_toArray, List.map_cons, List.map_nil]); first | done | rfl | (simp only [List.length_drop, List.length_take]; rfl)) ?_; (with_reducible refine (jtext_Print.calls t135 t136 _ _ t137 _ _ t140 t148 t149 _ ?side1 ?side2 ?side3 ?side4 ?side5 A5.out).mono ?_); (case side1 => refine (Kd.R_reads' (e := 9) (base := w.heap.size) (ok := fun k_ => True) (n := t137.length) (c := co23) ?_).2.2; exact (by (with_reducible repeat (first | apply Kd.R_alloc | apply Kd.R_drewN | apply Kd.R_drew)); exact (Kd.R_mono (Kd.R_far (p := ⟨gb145, 3, none⟩) (Kd.R_far (p := ⟨gb145, 2, none⟩) (Kd.R_far (p := ⟨gb145, 1, none⟩) (Kd.R_far (p := ⟨gb145, 0, none⟩) (Kd.R_types HO139.out BK145.out (by decide)) (fun _ hk => hk.2) (.int .i64 t135)) (fun _ hk => hk.2) (.string t136)) (fun _ hk => hk.2) (.slice Ao23 t137.length co23)) (fun _ hk => hk.2) (.slice Ao24 t140.length co24)) (fun _ h_ => h_.1)))); (case side2 => exact (Kd.R_reads' HO139.out).2.1); (case side3 => refine (Kd.R_reads' (e := 25) (base := w.heap.size) (ok := fun k_ => (some k_ ≠ (.slice Ao23 t137.length co23 : Value).ownBlock ∧ k_ ≠ gb145)) (n := t140.length) (c := co24) ?_).2.2; exact (by (with_reducible repeat (first | apply Kd.R_alloc | apply Kd.R_drewN | apply Kd.R_drew)); exact (Kd.R_mono (Kd.R_far (p := ⟨gb145, 3, none⟩) (Kd.R_far (p := ⟨gb145, 2, none⟩) (Kd.R_far (p := ⟨gb145, 1, none⟩) (Kd.R_far (p := ⟨gb145, 0, none⟩) (Kd.R_mono HO142.out (fun k_ hk => (⟨hk, hk.2⟩ : _ ∧ k_ ≠ gb145))) (fun _ hk => hk.2) (.int .i64 t135)) (fun _ hk => hk.2) (.string t136)) (fun _ hk => hk.2) (.slice Ao23 t137.length co23)) (fun _ hk => hk.2) (.slice Ao24 t140.length co24)) (fun _ h_ => h_.1)))); (case side4 => exact (Kd.R_reads' HO142.out).2.1); (case side5 => exact GL_below HG.out (by repeat (first | (with_reducible first | exact HB.out | apply below_alloc | apply pw_below_drewN | apply below_drew1 | refine below_set ?_ GE145.out) | exact HB.out))); rintro e w25 ⟨rfl, hb⟩; refine ⟨_, rfl, ?_⟩; have n0_ := Aside0.mk (Kd.R_below (by (with_reducible repeat (first | apply Kd.R_alloc | apply Kd.R_drewN | apply Kd.R_drew)); exact (Kd.R_mono (Kd.R_far (p := ⟨gb145, 3, none⟩) (Kd.R_far (p := ⟨gb145, 2, none⟩) (Kd.R_far (p := ⟨gb145, 1, none⟩) (Kd.R_far (p := ⟨gb145, 0, none⟩) (Kd.R_types HO139.out BK145.out (by decide)) (fun _ hk => hk.2) (.int .i64 t135)) (fun _ hk => hk.2) (.string t136)) (fun _ hk => hk.2) (.slice Ao23 t137.length co23)) (fun _ hk => hk.2) (.slice Ao24 t140.length co24)) (fun _ h_ => h_.1))) hb); have n1_ := Aside0.mk (Kd.R_below (by (with_reducible repeat (first | apply Kd.R_alloc | apply Kd.R_drewN | apply Kd.R_drew)); exact (Kd.R_mono (Kd.R_far (p := ⟨gb145, 3, none⟩) (Kd.R_far (p := ⟨gb145, 2, none⟩) (Kd.R_far (p := ⟨gb145, 1, none⟩) (Kd.R_far (p := ⟨gb145, 0, none⟩) (Kd.R_mono HO142.out (fun k_ hk => (⟨hk, hk.2⟩ : _ ∧ k_ ≠ gb145))) (fun _ hk => hk.2) (.int .i64 t135)) (fun _ hk => hk.2) (.string t136)) (fun _ hk => hk.2) (.slice Ao23 t137.length co23)) (fun _ hk => hk.2) (.slice Ao24 t140.length co24)) (fun _ h_ => h_.1))) hb); have n2_ := Aside0.mk (blk_below (g := gb145) (o := .cells #[.int .i64 t135, .string t136, .slice Ao23 t137.length co23, .slice Ao24 t140.length co24] 25 (0, 0)) (by (with_reducible repeat (first | refine blk_drewN ?_ _ | refine blk_drew ?_ | refine blk_alloc ?_ _)); refine blk_put (cs := #[.int .i64 t135, .string t136, .slice Ao23 t137.length co23, .slice none 0 0]) ?_ 3 _ rfl; (with_reducible repeat (first | refine blk_drewN ?_ _ | refine blk_drew ?_ | refine blk_alloc ?_ _)); refine blk_put (cs := #[.int .i64 t135, .string t136, .slice none 0 0, .slice none 0 0]) ?_ 2 _ rfl; (with_reducible repeat (first | refine blk_drewN ?_ _ | refine blk_drew ?_ | refine blk_alloc ?_ _)); refine blk_put (cs := #[.int .i64 t135, .string (⟨#[]⟩ : ByteArray), .slice none 0 0, .slice none 0 0]) ?_ 1 _ rfl; (with_reducible repeat (first | refine blk_drewN ?_ _ | refine blk_drew ?_ | refine blk_alloc ?_ _)); refine blk_put (cs := #[.int .i64 0, .string (⟨#[]⟩ : ByteArray), .slice none 0 0, .slice none 0 0]) ?_ 0 _ rfl; (with_reducible repeat (first | refine blk_drewN ?_ _ | refine blk_drew ?_ | refine blk_alloc ?_ _)); exact BK145.out) hb); have n3_ := Aside0.mk (below_step (by repeat (first | (with_reducible first | exact HB.out | apply below_alloc | apply pw_below_drewN | apply below_drew1 | refine below_set ?_ GE145.out) | exact HB.out)) hb); clear HO139; clear HO142; clear BK145; clear HB; have HO139 := n0_; have HO142 := n1_; have BK145 := n2_; have HB := n3_; clear n0_ n1_ n2_ n3_; (try clear hb); (try clear hb2); (try clear hk); (try clear hi)) | ((with_reducible refine gate_callee (f := 14) rfl ?_); refine goesL_ (some 29) rfl rfl Tryd.func14 (by kernel_rfl) rfl #[.int .i64 t149] rfl (by (try simp only [List.map_toArray, List.map_cons, List.map_nil]); first | done | rfl | (simp only [List.length_drop, List.length_take]; rfl)) ?_; (with_reducible refine (wicketlaw04_num.calls t149 t149 _ A6.out).mono ?_); rintro e w' ⟨rfl, ⟨nd, rfl⟩⟩; refine ⟨_, rfl, ?_⟩; (try (rw [drewN_self w25]; generalize hq_ : World.drewN w25 _ = w25; have n0_ : Aside0 (Kd.R Kd.string 9 w25 w.heap.size (fun _ => True) (.slice Ao23 t137.length co23) t137) := ⟨by rw [← hq_]; exact (by (with_reducible repeat (first | apply Kd.R_alloc | apply Kd.R_drewN | apply Kd.R_drew)); exact HO139.out)⟩; have n1_ : Aside0 (Kd.R k25 25 w25 w.heap.size (fun k_ => some k_ ≠ (.slice Ao23 t137.length co23 : Value).ownBlock ∧ k_ ≠ gb145) (.slice Ao24 t140.length co24) t140) := ⟨by rw [← hq_]; exact (by (with_reducible repeat (first | apply Kd.R_alloc | apply Kd.R_drewN | apply Kd.R_drew)); exact HO142.out)⟩; have n2_ : Aside0 (w25.heap[gb145]? = some (.cells #[.int .i64 t135, .string t136, .slice Ao23 t137.length co23, .slice Ao24 t140.length co24] 25 (0, 0))) := ⟨by rw [← hq_]; exact (by (with_reducible repeat (first | refine blk_drewN ?_ _ | refine blk_drew ?_ | refine blk_alloc ?_ _)); exact BK145.out)⟩; have n3_ : Aside0 (Below w.heap.size w w25) := ⟨by rw [← hq_]; exact (by repeat (first | (with_reducible first | exact HB.out | apply below_alloc | apply pw_below_drewN | apply below_drew1 | refine below_set ?_ GE145.out) | exact HB.out))⟩; clear HO139 HO142 BK145 HB hq_; have HO139 := n0_; have HO142 := n1_; have BK145 := n2_; have HB := n3_; clear n0_ n1_ n2_ n3_))) | ((with_reducible refine gate_callee (f := 11) rfl ?_); refine goesL_ (some 39) rfl rfl Tryd.func11 (by kernel_rfl) rfl #[.string t148] rfl (by (try simp only [List.map_toArray, List.map_cons, List.map_nil]); first | done | rfl | (simp only [List.length_drop, List.length_take]; rfl)) ?_; (with_reducible refine (jtext_Parse.calls t148 t153 t154 t155 t158 t161 t162 _ ?side1 A8.out).mono ?_); (case side1 => exact GL_below HG.out (by repeat (first | (with_reducible first | exact HB.out | apply below_alloc | apply pw_below_drewN | apply below_drew1 | refine below_set ?_ GE145.out) | exact HB.out))); rintro e w26 ⟨v156, v159, rfl, ho0, ho1, hb⟩; refine ⟨_, rfl, ?_⟩; have n0_ := Aside0.mk (Kd.R_elder' (by (with_reducible repeat (first | apply Kd.R_alloc | apply Kd.R_drewN | apply Kd.R_drew)); exact HO139.out) (Kd.R_base ho0) hb); have n1_ := Aside0.mk (Kd.R_mono (Kd.R_told (Kd.R_told (Kd.R_old (by (with_reducible repeat (first | apply Kd.R_alloc | apply Kd.R_drewN | apply Kd.R_drew)); exact HO142.out) hb) (Kd.R_base ho0)) (Kd.R_base ho1)) (fun _ h_ => h_.1)); have n2_ := Aside0.mk (Kd.R_lower (Kd.R_new' ho0 (Kd.R_lt (by (with_reducible repeat (first | apply Kd.R_alloc | apply Kd.R_drewN | apply Kd.R_drew)); exact HO139.out))) (below_size (by repeat (first | (with_reducible first | exact HB.out | apply below_alloc | apply pw_below_drewN | apply below_drew1 | refine below_set ?_ GE145.out) | exact HB.out)))); have n3_ := Aside0.mk (Kd.R_lower (Kd.R_newB (Kd.R_new' (Kd.R_new' ho1 (Kd.R_lt (by (with_reducible repeat (first | apply Kd.R_alloc | apply Kd.R_drewN | apply Kd.R_drew)); exact HO139.out))) (Kd.R_lt (by (with_reducible repeat (first | apply Kd.R_alloc | apply Kd.R_drewN | apply Kd.R_drew)); exact HO142.out))) (g := gb145) (o := .cells #[.int .i64 t135, .string t136, .slice Ao23 t137.length co23, .slice Ao24 t140.length co24] 25 (0, 0)) (by (with_reducible repeat (first | refine blk_drewN ?_ _ | refine blk_drew ?_ | refine blk_alloc ?_ _)); exact BK145.out)) (below_size (by repeat (first | (with_reducible first | exact HB.out | apply below_alloc | apply pw_below_drewN | apply below_drew1 | refine below_set ?_ GE145.out) | exact HB.out)))); have n4_ := Aside0.mk (blk_below (g := gb145) (o := .cells #[.int .i64 t135, .string t136, .slice Ao23 t137.length co23, .slice Ao24 t140.length co24] 25 (0, 0)) (by (with_reducible repeat (first | refine blk_drewN ?_ _ | refine blk_drew ?_ | refine blk_alloc ?_ _)); exact BK145.out) hb); have n5_ := Aside0.mk (below_step (by repeat (first | (with_reducible first | exact HB.out | apply below_alloc | apply pw_below_drewN | apply below_drew1 | refine below_set ?_ GE145.out) | exact HB.out)) hb); clear HO139; clear HO142; clear BK145; clear HB; have HO139 := n0_; have HO142 := n1_; have HO157 := n2_; have HO160 := n3_; have BK145 := n4_; have HB := n5_; clear n0_ n1_ n2_ n3_ n4_ n5_; (try clear hb); (try clear hb2); (try clear hk); (try clear hi); (try clear ho0); (try clear ho1)) | ((with_reducible refine gate_dst (N := 8) rfl ?_); refine box_event ?hg (N := 8) ?hd (cs := #[.int .i64 0, .string (⟨#[]⟩ : ByteArray), .slice none 0 0, .slice none 0 0]) (t := 25) ?hr ?_; (case hd => rfl); (case hg => rfl); (case hr => first | (go_simp; done) | (go_simp; rfl)); intro gb163 hg w27 hbox hb; have n0_ := Aside0.mk (Kd.R_below (by (with_reducible repeat (first | apply Kd.R_alloc | apply Kd.R_drewN | apply Kd.R_drew)); exact HO139.out) hb); have n1_ := Aside0.mk (Kd.R_below (Kd.R_elderB (by (with_reducible repeat (first | apply Kd.R_alloc | apply Kd.R_drewN | apply Kd.R_drew)); exact HO142.out) gb163 (Nat.le_of_eq hg.symm)) hb); have n2_ := Aside0.mk (Kd.R_below (by (with_reducible repeat (first | apply Kd.R_alloc | apply Kd.R_drewN | apply Kd.R_drew)); exact HO157.out) hb); have n3_ := Aside0.mk (Kd.R_below (Kd.R_elderB (by (with_reducible repeat (first | apply Kd.R_alloc | apply Kd.R_drewN | apply Kd.R_drew)); exact HO160.out) gb163 (Nat.le_of_eq hg.symm)) hb); have n4_ := Aside0.mk (blk_below (g := gb145) (o := .cells #[.int .i64 t135, .string t136, .slice Ao23 t137.length co23, .slice Ao24 t140.length co24] 25 (0, 0)) (by (with_reducible repeat (first | refine blk_drewN ?_ _ | refine blk_drew ?_ | refine blk_alloc ?_ _)); exact BK145.out) hb); have n5_ := Aside0.mk (below_step (by repeat (first | (with_reducible first | exact HB.out | apply below_alloc | apply pw_below_drewN | apply below_drew1 | refine below_set ?_ GE145.out) | exact HB.out)) hb); have n6_ := Aside0.mk (hbox); have n7_ := Aside0.mk ((by rw [hg]; exact (below_size (by repeat (first | (with_reducible first | exact HB.out | apply below_alloc | apply pw_below_drewN | apply below_drew1 | refine below_set ?_ GE145.out) | exact HB.out))) : w.heap.size ≤ gb163)); have n8_ := Aside0.mk ((by rw [hg]; exact (below_size (by repeat (first | (with_reducible first | exact HB.out | apply below_alloc | apply pw_below_drewN | apply below_drew1 | refine below_set ?_ GE145.out) | exact HB.out))) : w.heap.size ≤ gb163)); have n9_ := Aside0.mk ((by rw [hg]; exact Nat.ne_of_lt (blk_lt (g := gb145) (o := .cells #[.int .i64 t135, .string t136, .slice Ao23 t137.length co23, .slice Ao24 t140.length co24] 25 (0, 0)) (by (with_reducible repeat (first | refine blk_drewN ?_ _ | refine blk_drew ?_ | refine blk_alloc ?_ _)); exact BK145.out)) : gb145 ≠ gb163)); have n10_ := Aside0.mk ((by rw [hg]; exact Nat.ne_of_gt (blk_lt (g := gb145) (o := .cells #[.int .i64 t135, .string t136, .slice Ao23 t137.length co23, .slice Ao24 t140.length co24] 25 (0, 0)) (by (with_reducible repeat (first | refine blk_drewN ?_ _ | refine blk_drew ?_ | refine blk_alloc ?_ _)); exact BK145.out)) : gb163 ≠ gb145)); clear HO139; clear HO142; clear HO157; clear HO160; clear BK145; clear HB; have HO139 := n0_; have HO142 := n1_; have HO157 := n2_; have HO160 := n3_; have BK145 := n4_; have HB := n5_; have BK163 := n6_; have GW163 := n7_; have GE163 := n8_; have NB145_163 := n9_; have NB163_145 := n10_; clear n0_ n1_ n2_ n3_ n4_ n5_ n6_ n7_ n8_ n9_ n10_; clear hb hbox hg; have hnb28 := NB163_145.out; have hnc28 := NB145_163.out; have hcz29_0 : w27.cell? ⟨gb163, 0, none⟩ = some (.int .i64 0) := (blk_cell BK163.out 0).trans rfl; have hcz29_1 : w27.cell? ⟨gb163, 1, none⟩ = some (.string (⟨#[]⟩ : ByteArray)) := (blk_cell BK163.out 1).trans rfl; have hcz29_2 : w27.cell? ⟨gb163, 2, none⟩ = some (.slice none 0 0) := (blk_cell BK163.out 2).trans rfl; have hcz29_3 : w27.cell? ⟨gb163, 3, none⟩ = some (.slice none 0 0) := (blk_cell BK163.out 3).trans rfl; have hfz29_0 := blk_frozen BK163.out 0; have hfz29_1 := blk_frozen BK163.out 1; have hfz29_2 := blk_frozen BK163.out 2; have hfz29_3 := blk_frozen BK163.out 3; obtain ⟨Ao30, co30, eo30⟩ := Kd.R_slice HO157.out; subst eo30; obtain ⟨Ao31, co31, eo31⟩ := Kd.R_slice HO160.out; subst eo31) | ((with_reducible refine gate_callee (f := 17) rfl ?_); refine goesL_ (some 45) rfl rfl Tryd.func17 (by kernel_rfl) rfl #[.agg #[.int .i64 t153, .string t154, .slice Ao30 t155.length co30, .slice Ao31 t158.length co31]] rfl (by (try simp only [List.map_toArray, List.map_cons, List.map_nil]); first | done | rfl | (simp only [List.length_drop, List.length_take]; rfl)) ?_; (with_reducible refine (jtext_Print.calls t153 t154 _ _ t155 _ _ t158 t164 t165 _ ?side1 ?side2 ?side3 ?side4 ?side5 A9.out).mono ?_); (case side1 => refine (Kd.R_reads' (e := 9) (base := w.heap.size) (ok := fun k_ => (True ∧ some k_ ≠ (.slice Ao23 t137.length co23 : Value).ownBlock)) (n := t155.length) (c := co30) ?_).2.2; exact (by (with_reducible repeat (first | apply Kd.R_alloc | apply Kd.R_drewN | apply Kd.R_drew)); exact (Kd.R_mono (Kd.R_far (p := ⟨gb163, 3, none⟩) (Kd.R_far (p := ⟨gb163, 2, none⟩) (Kd.R_far (p := ⟨gb163, 1, none⟩) (Kd.R_far (p := ⟨gb163, 0, none⟩) (Kd.R_types HO157.out BK163.out (by decide)) (fun _ hk => hk.2) (.int .i64 t153)) (fun _ hk => hk.2) (.string t154)) (fun _ hk => hk.2) (.slice Ao30 t155.length co30)) (fun _ hk => hk.2) (.slice Ao31 t158.length co31)) (fun _ h_ => h_.1)))); (case side2 => exact (Kd.R_reads' HO157.out).2.1); (case side3 => refine (Kd.R_reads' (e := 25) (base := w.heap.size) (ok := fun k_ => ((((some k_ ≠ (.slice Ao30 t155.length co30 : Value).ownBlock ∧ some k_ ≠ (.slice Ao23 t137.length co23 : Value).ownBlock) ∧ some k_ ≠ (.slice Ao24 t140.length co24 : Value).ownBlock) ∧ k_ ≠ gb145) ∧ k_ ≠ gb163)) (n := t158.length) (c := co31) ?_).2.2; exact (by (with_reducible repeat (first | apply Kd.R_alloc | apply Kd.R_drewN | apply Kd.R_drew)); exact (Kd.R_mono (Kd.R_far (p := ⟨gb163, 3, none⟩) (Kd.R_far (p := ⟨gb163, 2, none⟩) (Kd.R_far (p := ⟨gb163, 1, none⟩) (Kd.R_far (p := ⟨gb163, 0, none⟩) (Kd.R_mono HO160.out (fun k_ hk => (⟨hk, hk.2⟩ : _ ∧ k_ ≠ gb163))) (fun _ hk => hk.2) (.int .i64 t153)) (fun _ hk => hk.2) (.string t154)) (fun _ hk => hk.2) (.slice Ao30 t155.length co30)) (fun _ hk => hk.2) (.slice Ao31 t158.length co31)) (fun _ h_ => h_.1)))); (case side4 => exact (Kd.R_reads' HO160.out).2.1); (case side5 => exact GL_below HG.out (by repeat (first | (with_reducible first | exact HB.out | apply below_alloc | apply pw_below_drewN | apply below_drew1 | refine below_set ?_ GE145.out | refine below_set ?_ GE163.out) | exact HB.out))); rintro e w32 ⟨rfl, hb⟩; refine ⟨_, rfl, ?_⟩; have n0_ := Aside0.mk (Kd.R_below (by (with_reducible repeat (first | apply Kd.R_alloc | apply Kd.R_drewN | apply Kd.R_drew)); exact (Kd.R_mono (Kd.R_far (p := ⟨gb163, 3, none⟩) (Kd.R_far (p := ⟨gb163, 2, none⟩) (Kd.R_far (p := ⟨gb163, 1, none⟩) (Kd.R_far (p := ⟨gb163, 0, none⟩) (Kd.R_types HO139.out BK163.out (by decide)) (fun _ hk => hk.2) (.int .i64 t153)) (fun _ hk => hk.2) (.string t154)) (fun _ hk => hk.2) (.slice Ao30 t155.length co30)) (fun _ hk => hk.2) (.slice Ao31 t158.length co31)) (fun _ h_ => h_.1))) hb); have n1_ := Aside0.mk (Kd.R_below (by (with_reducible repeat (first | apply Kd.R_alloc | apply Kd.R_drewN | apply Kd.R_drew)); exact (Kd.R_mono (Kd.R_far (p := ⟨gb163, 3, none⟩) (Kd.R_far (p := ⟨gb163, 2, none⟩) (Kd.R_far (p := ⟨gb163, 1, none⟩) (Kd.R_far (p := ⟨gb163, 0, none⟩) (Kd.R_mono HO142.out (fun k_ hk => (⟨hk, hk.2⟩ : _ ∧ k_ ≠ gb163))) (fun _ hk => hk.2) (.int .i64 t153)) (fun _ hk => hk.2) (.string t154)) (fun _ hk => hk.2) (.slice Ao30 t155.length co30)) (fun _ hk => hk.2) (.slice Ao31 t158.length co31)) (fun _ h_ => h_.1))) hb); have n2_ := Aside0.mk (Kd.R_below (by (with_reducible repeat (first | apply Kd.R_alloc | apply Kd.R_drewN | apply Kd.R_drew)); exact (Kd.R_mono (Kd.R_far (p := ⟨gb163, 3, none⟩) (Kd.R_far (p := ⟨gb163, 2, none⟩) (Kd.R_far (p := ⟨gb163, 1, none⟩) (Kd.R_far (p := ⟨gb163, 0, none⟩) (Kd.R_types HO157.out BK163.out (by decide)) (fun _ hk => hk.2) (.int .i64 t153)) (fun _ hk => hk.2) (.string t154)) (fun _ hk => hk.2) (.slice Ao30 t155.length co30)) (fun _ hk => hk.2) (.slice Ao31 t158.length co31)) (fun _ h_ => h_.1))) hb); have n3_ := Aside0.mk (Kd.R_below (by (with_reducible repeat (first | apply Kd.R_alloc | apply Kd.R_drewN | apply Kd.R_drew)); exact (Kd.R_mono (Kd.R_far (p := ⟨gb163, 3, none⟩) (Kd.R_far (p := ⟨gb163, 2, none⟩) (Kd.R_far (p := ⟨gb163, 1, none⟩) (Kd.R_far (p := ⟨gb163, 0, none⟩) (Kd.R_mono HO160.out (fun k_ hk => (⟨hk, hk.2⟩ : _ ∧ k_ ≠ gb163))) (fun _ hk => hk.2) (.int .i64 t153)) (fun _ hk => hk.2) (.string t154)) (fun _ hk => hk.2) (.slice Ao30 t155.length co30)) (fun _ hk => hk.2) (.slice Ao31 t158.length co31)) (fun _ h_ => h_.1))) hb); have n4_ := Aside0.mk (blk_below (g := gb145) (o := .cells #[.int .i64 t135, .string t136, .slice Ao23 t137.length co23, .slice Ao24 t140.length co24] 25 (0, 0)) (by (with_reducible repeat (first | refine blk_drewN ?_ _ | refine blk_drew ?_ | refine blk_alloc ?_ _)); refine blk_far ?_ NB145_163.out _; (with_reducible repeat (first | refine blk_drewN ?_ _ | refine blk_drew ?_ | refine blk_alloc ?_ _)); refine blk_far ?_ NB145_163.out _; (with_reducible repeat (first | refine blk_drewN ?_ _ | refine blk_drew ?_ | refine blk_alloc ?_ _)); refine blk_far ?_ NB145_163.out _; (with_reducible repeat (first | refine blk_drewN ?_ _ | refine blk_drew ?_ | refine blk_alloc ?_ _)); refine blk_far ?_ NB145_163.out _; (with_reducible repeat (first | refine blk_drewN ?_ _ | refine blk_drew ?_ | refine blk_alloc ?_ _)); exact BK145.out) hb); have n5_ := Aside0.mk (blk_below (g := gb163) (o := .cells #[.int .i64 t153, .string t154, .slice Ao30 t155.length co30, .slice Ao31 t158.length co31] 25 (0, 0)) (by (with_reducible repeat (first | refine blk_drewN ?_ _ | refine blk_drew ?_ | refine blk_alloc ?_ _)); refine blk_put (cs := #[.int .i64 t153, .string t154, .slice Ao30 t155.length co30, .slice none 0 0]) ?_ 3 _ rfl; (with_reducible repeat (first | refine blk_drewN ?_ _ | refine blk_drew ?_ | refine blk_alloc ?_ _)); refine blk_put (cs := #[.int .i64 t153, .string t154, .slice none 0 0, .slice none 0 0]) ?_ 2 _ rfl; (with_reducible repeat (first | refine blk_drewN ?_ _ | refine blk_drew ?_ | refine blk_alloc ?_ _)); refine blk_put (cs := #[.int .i64 t153, .string (⟨#[]⟩ : ByteArray), .slice none 0 0, .slice none 0 0]) ?_ 1 _ rfl; (with_reducible repeat (first | refine blk_drewN ?_ _ | refine blk_drew ?_ | refine blk_alloc ?_ _)); refine blk_put (cs := #[.int .i64 0, .string (⟨#[]⟩ : ByteArray), .slice none 0 0, .slice none 0 0]) ?_ 0 _ rfl; (with_reducible repeat (first | refine blk_drewN ?_ _ | refine blk_drew ?_ | refine blk_alloc ?_ _)); exact BK163.out) hb); have n6_ := Aside0.mk (below_step (by repeat (first | (with_reducible first | exact HB.out | apply below_alloc | apply pw_below_drewN | apply below_drew1 | refine below_set ?_ GE145.out | refine below_set ?_ GE163.out) | exact HB.out)) hb); clear HO139; clear HO142; clear HO157; clear HO160; clear BK145; clear BK163; clear HB; have HO139 := n0_; have HO142 := n1_; have HO157 := n2_; have HO160 := n3_; have BK145 := n4_; have BK163 := n5_; have HB := n6_; clear n0_ n1_ n2_ n3_ n4_ n5_ n6_; (try clear hb); (try clear hb2); (try clear hk); (try clear hi)) | ((with_reducible refine gate_callee (f := 13) rfl ?_); refine goesL_ (some 48) rfl rfl Tryd.func13 (by kernel_rfl) rfl #[] rfl (by (try simp only [List.map_toArray, List.map_cons, List.map_nil]); first | done | rfl | (simp only [List.length_drop, List.length_take]; rfl)) ?_; (with_reducible refine (wicketlaw04_live.calls  true _ ?side1 A10.out).mono ?_); (case side1 => exact GL_below HG.out (by repeat (first | (with_reducible first | exact HB.out | apply below_alloc | apply pw_below_drewN | apply below_drew1 | refine below_set ?_ GE145.out | refine below_set ?_ GE163.out) | exact HB.out))); rintro e w33 ⟨rfl, hb⟩; refine ⟨_, rfl, ?_⟩; have n0_ := Aside0.mk (Kd.R_below (by (with_reducible repeat (first | apply Kd.R_alloc | apply Kd.R_drewN | apply Kd.R_drew)); exact HO139.out) hb); have n1_ := Aside0.mk (Kd.R_below (by (with_reducible repeat (first | apply Kd.R_alloc | apply Kd.R_drewN | apply Kd.R_drew)); exact HO142.out) hb); have n2_ := Aside0.mk (Kd.R_below (by (with_reducible repeat (first | apply Kd.R_alloc | apply Kd.R_drewN | apply Kd.R_drew)); exact HO157.out) hb); have n3_ := Aside0.mk (Kd.R_below (by (with_reducible repeat (first | apply Kd.R_alloc | apply Kd.R_drewN | apply Kd.R_drew)); exact HO160.out) hb); have n4_ := Aside0.mk (blk_below (g := gb145) (o := .cells #[.int .i64 t135, .string t136, .slice Ao23 t137.length co23, .slice Ao24 t140.length co24] 25 (0, 0)) (by (with_reducible repeat (first | refine blk_drewN ?_ _ | refine blk_drew ?_ | refine blk_alloc ?_ _)); exact BK145.out) hb); have n5_ := Aside0.mk (blk_below (g := gb163) (o := .cells #[.int .i64 t153, .string t154, .slice Ao30 t155.length co30, .slice Ao31 t158.length co31] 25 (0, 0)) (by (with_reducible repeat (first | refine blk_drewN ?_ _ | refine blk_drew ?_ | refine blk_alloc ?_ _)); exact BK163.out) hb); have n6_ := Aside0.mk (below_step (by repeat (first | (with_reducible first | exact HB.out | apply below_alloc | apply pw_below_drewN | apply below_drew1 | refine below_set ?_ GE145.out | refine below_set ?_ GE163.out) | exact HB.out)) hb); clear HO139; clear HO142; clear HO157; clear HO160; clear BK145; clear BK163; clear HB; have HO139 := n0_; have HO142 := n1_; have HO157 := n2_; have HO160 := n3_; have BK145 := n4_; have BK163 := n5_; have HB := n6_; clear n0_ n1_ n2_ n3_ n4_ n5_ n6_; (try clear hb); (try clear hb2); (try clear hk); (try clear hi)) | (go_at_call 14; (with_reducible refine (wicketlaw04_num.calls t161 t161 _ A12.out).mono ?_); rintro e w' ⟨rfl, ⟨nd, rfl⟩⟩; have hcz34_0 : w33.cell? ⟨gb145, 0, none⟩ = some (.int .i64 t135) := (blk_cell BK145.out 0).trans rfl; have hcz34_1 : w33.cell? ⟨gb145, 1, none⟩ = some (.string t136) := (blk_cell BK145.out 1).trans rfl; have hcz34_2 : w33.cell? ⟨gb145, 2, none⟩ = some (.slice Ao23 t137.length co23) := (blk_cell BK145.out 2).trans rfl; have hcz34_3 : w33.cell? ⟨gb145, 3, none⟩ = some (.slice Ao24 t140.length co24) := (blk_cell BK145.out 3).trans rfl; have hfz34_0 := blk_frozen BK145.out 0; have hfz34_1 := blk_frozen BK145.out 1; have hfz34_2 := blk_frozen BK145.out 2; have hfz34_3 := blk_frozen BK145.out 3; have hcz35_0 : w33.cell? ⟨gb163, 0, none⟩ = some (.int .i64 t153) := (blk_cell BK163.out 0).trans rfl; have hcz35_1 : w33.cell? ⟨gb163, 1, none⟩ = some (.string t154) := (blk_cell BK163.out 1).trans rfl; have hcz35_2 : w33.cell? ⟨gb163, 2, none⟩ = some (.slice Ao30 t155.length co30) := (blk_cell BK163.out 2).trans rfl; have hcz35_3 : w33.cell? ⟨gb163, 3, none⟩ = some (.slice Ao31 t158.length co31) := (blk_cell BK163.out 3).trans rfl; have hfz35_0 := blk_frozen BK163.out 0; have hfz35_1 := blk_frozen BK163.out 1; have hfz35_2 := blk_frozen BK163.out 2; have hfz35_3 := blk_frozen BK163.out 3) | (go_at_call 15; (with_reducible refine (wicketref04_Equal.calls k t135 t136 _ _ t137 _ _ t140 t153 t154 _ _ t155 _ _ t158 true _ ?side1 ?side2 ?side3 ?side4 ?side5 ?side6 ?side7 ?side8 A14.out).mono ?_); (case side1 => repeat (first | exact (Kd.R_reads' HO139.out).2.2 | (with_reducible refine Kd.C_alloc ?_ _) | (with_reducible refine Kd.C_drewN ?_ _) | (with_reducible refine Kd.C_drew ?_))); (case side2 => exact (Kd.R_reads' HO139.out).2.1); (case side3 => repeat (first | exact (Kd.R_reads' HO142.out).2.2 | (with_reducible refine Kd.C_alloc ?_ _) | (with_reducible refine Kd.C_drewN ?_ _) | (with_reducible refine Kd.C_drew ?_))); (case side4 => exact (Kd.R_reads' HO142.out).2.1); (case side5 => repeat (first | exact (Kd.R_reads' HO157.out).2.2 | (with_reducible refine Kd.C_alloc ?_ _) | (with_reducible refine Kd.C_drewN ?_ _) | (with_reducible refine Kd.C_drew ?_))); (case side6 => exact (Kd.R_reads' HO157.out).2.1); (case side7 => repeat (first | exact (Kd.R_reads' HO160.out).2.2 | (with_reducible refine Kd.C_alloc ?_ _) | (with_reducible refine Kd.C_drewN ?_ _) | (with_reducible refine Kd.C_drew ?_))); (case side8 => exact (Kd.R_reads' HO160.out).2.1); rintro e w36 ⟨rfl, hb⟩; have n0_ := Aside0.mk (Kd.R_below (by (with_reducible repeat (first | apply Kd.R_alloc | apply Kd.R_drewN | apply Kd.R_drew)); exact HO139.out) hb); have n1_ := Aside0.mk (Kd.R_below (by (with_reducible repeat (first | apply Kd.R_alloc | apply Kd.R_drewN | apply Kd.R_drew)); exact HO142.out) hb); have n2_ := Aside0.mk (Kd.R_below (by (with_reducible repeat (first | apply Kd.R_alloc | apply Kd.R_drewN | apply Kd.R_drew)); exact HO157.out) hb); have n3_ := Aside0.mk (Kd.R_below (by (with_reducible repeat (first | apply Kd.R_alloc | apply Kd.R_drewN | apply Kd.R_drew)); exact HO160.out) hb); have n4_ := Aside0.mk (blk_below (g := gb145) (o := .cells #[.int .i64 t135, .string t136, .slice Ao23 t137.length co23, .slice Ao24 t140.length co24] 25 (0, 0)) (by (with_reducible repeat (first | refine blk_drewN ?_ _ | refine blk_drew ?_ | refine blk_alloc ?_ _)); exact BK145.out) hb); have n5_ := Aside0.mk (blk_below (g := gb163) (o := .cells #[.int .i64 t153, .string t154, .slice Ao30 t155.length co30, .slice Ao31 t158.length co31] 25 (0, 0)) (by (with_reducible repeat (first | refine blk_drewN ?_ _ | refine blk_drew ?_ | refine blk_alloc ?_ _)); exact BK163.out) hb); have n6_ := Aside0.mk (below_step (by repeat (first | (with_reducible first | exact HB.out | apply below_alloc | apply pw_below_drewN | apply below_drew1 | refine below_set ?_ GE145.out | refine below_set ?_ GE163.out) | exact HB.out)) hb); clear HO139; clear HO142; clear HO157; clear HO160; clear BK145; clear BK163; clear HB; have HO139 := n0_; have HO142 := n1_; have HO157 := n2_; have HO160 := n3_; have BK145 := n4_; have BK163 := n5_; have HB := n6_; clear n0_ n1_ n2_ n3_ n4_ n5_ n6_; (try clear hb); (try clear hb2); (try clear hk); (try clear hi)) | (go_at_call 14; (with_reducible refine (wicketlaw04_num.calls t165 t165 _ A16.out).mono ?_); rintro e w' ⟨rfl, ⟨nd, rfl⟩⟩; have hcz37_0 : w36.cell? ⟨gb145, 0, none⟩ = some (.int .i64 t135) := (blk_cell BK145.out 0).trans rfl; have hcz37_1 : w36.cell? ⟨gb145, 1, none⟩ = some (.string t136) := (blk_cell BK145.out 1).trans rfl; have hcz37_2 : w36.cell? ⟨gb145, 2, none⟩ = some (.slice Ao23 t137.length co23) := (blk_cell BK145.out 2).trans rfl; have hcz37_3 : w36.cell? ⟨gb145, 3, none⟩ = some (.slice Ao24 t140.length co24) := (blk_cell BK145.out 3).trans rfl; have hfz37_0 := blk_frozen BK145.out 0; have hfz37_1 := blk_frozen BK145.out 1; have hfz37_2 := blk_frozen BK145.out 2; have hfz37_3 := blk_frozen BK145.out 3; have hcz38_0 : w36.cell? ⟨gb163, 0, none⟩ = some (.int .i64 t153) := (blk_cell BK163.out 0).trans rfl; have hcz38_1 : w36.cell? ⟨gb163, 1, none⟩ = some (.string t154) := (blk_cell BK163.out 1).trans rfl; have hcz38_2 : w36.cell? ⟨gb163, 2, none⟩ = some (.slice Ao30 t155.length co30) := (blk_cell BK163.out 2).trans rfl; have hcz38_3 : w36.cell? ⟨gb163, 3, none⟩ = some (.slice Ao31 t158.length co31) := (blk_cell BK163.out 3).trans rfl; have hfz38_0 := blk_frozen BK163.out 0; have hfz38_1 := blk_frozen BK163.out 1; have hfz38_2 := blk_frozen BK163.out 2; have hfz38_3 := blk_frozen BK163.out 3) | (go_at_call 22; (with_reducible refine (jtext_Same.calls t135 t136 _ _ t137 _ _ t140 t153 t154 _ _ t155 _ _ t158 t170 _ ?side1 ?side2 ?side3 ?side4 ?side5 ?side6 ?side7 ?side8 ?side9 A19.out).mono ?_); (case side1 => repeat (first | exact (Kd.R_reads' HO139.out).2.2 | (with_reducible refine Kd.C_alloc ?_ _) | (with_reducible refine Kd.C_drewN ?_ _) | (with_reducible refine Kd.C_drew ?_))); (case side2 => exact (Kd.R_reads' HO139.out).2.1); (case side3 => repeat (first | exact (Kd.R_reads' HO142.out).2.2 | (with_reducible refine Kd.C_alloc ?_ _) | (with_reducible refine Kd.C_drewN ?_ _) | (with_reducible refine Kd.C_drew ?_))); (case side4 => exact (Kd.R_reads' HO142.out).2.1); (case side5 => repeat (first | exact (Kd.R_reads' HO157.out).2.2 | (with_reducible refine Kd.C_alloc ?_ _) | (with_reducible refine Kd.C_drewN ?_ _) | (with_reducible refine Kd.C_drew ?_))); (case side6 => exact (Kd.R_reads' HO157.out).2.1); (case side7 => repeat (first | exact (Kd.R_reads' HO160.out).2.2 | (with_reducible refine Kd.C_alloc ?_ _) | (with_reducible refine Kd.C_drewN ?_ _) | (with_reducible refine Kd.C_drew ?_))); (case side8 => exact (Kd.R_reads' HO160.out).2.1); (case side9 => exact GL_below HG.out (by repeat (first | (with_reducible first | exact HB.out | apply below_alloc | apply pw_below_drewN | apply below_drew1 | refine below_set ?_ GE145.out | refine below_set ?_ GE163.out) | exact HB.out))); rintro e w39 ⟨rfl, hb⟩; have n0_ := Aside0.mk (Kd.R_below (by (with_reducible repeat (first | apply Kd.R_alloc | apply Kd.R_drewN | apply Kd.R_drew)); exact HO139.out) hb); have n1_ := Aside0.mk (Kd.R_below (by (with_reducible repeat (first | apply Kd.R_alloc | apply Kd.R_drewN | apply Kd.R_drew)); exact HO142.out) hb); have n2_ := Aside0.mk (Kd.R_below (by (with_reducible repeat (first | apply Kd.R_alloc | apply Kd.R_drewN | apply Kd.R_drew)); exact HO157.out) hb); have n3_ := Aside0.mk (Kd.R_below (by (with_reducible repeat (first | apply Kd.R_alloc | apply Kd.R_drewN | apply Kd.R_drew)); exact HO160.out) hb); have n4_ := Aside0.mk (blk_below (g := gb145) (o := .cells #[.int .i64 t135, .string t136, .slice Ao23 t137.length co23, .slice Ao24 t140.length co24] 25 (0, 0)) (by (with_reducible repeat (first | refine blk_drewN ?_ _ | refine blk_drew ?_ | refine blk_alloc ?_ _)); exact BK145.out) hb); have n5_ := Aside0.mk (blk_below (g := gb163) (o := .cells #[.int .i64 t153, .string t154, .slice Ao30 t155.length co30, .slice Ao31 t158.length co31] 25 (0, 0)) (by (with_reducible repeat (first | refine blk_drewN ?_ _ | refine blk_drew ?_ | refine blk_alloc ?_ _)); exact BK163.out) hb); have n6_ := Aside0.mk (below_step (by repeat (first | (with_reducible first | exact HB.out | apply below_alloc | apply pw_below_drewN | apply below_drew1 | refine below_set ?_ GE145.out | refine below_set ?_ GE163.out) | exact HB.out)) hb); clear HO139; clear HO142; clear HO157; clear HO160; clear BK145; clear BK163; clear HB; have HO139 := n0_; have HO142 := n1_; have HO157 := n2_; have HO160 := n3_; have BK145 := n4_; have BK163 := n5_; have HB := n6_; clear n0_ n1_ n2_ n3_ n4_ n5_ n6_; (try clear hb); (try clear hb2); (try clear hk); (try clear hi)))
                go_ret
                exact ⟨by first | rfl | (simp [errW_none, errW_some] <;> rfl) | (simp [*, errW_none, errW_some] <;> rfl), by repeat (first | (with_reducible first | exact HB.out | apply below_alloc | apply pw_below_drewN | apply below_drew1 | refine below_set ?_ GE145.out | refine below_set ?_ GE163.out) | exact HB.out)⟩
              · rw [if_neg c18] at H
                have c18b0 : (t164.toList == t148.toList) = false := beq_eq_false_iff_ne.mpr c18
                have c18b1 : (t164.toList != t148.toList) = true := bne_iff_ne.mpr c18
                cases H
            · rw [if_neg c17] at H
              have c17b0 : (t165 == 0) = false := beq_eq_false_iff_ne.mpr c17
              have c17b1 : (t165 != 0) = true := bne_iff_ne.mpr c17
              cases H
          · replace c15 := Bool.eq_false_iff.mpr c15
            subst c15
            have H1 : none = some r := by rw [if_neg (show ¬ (false = true) by decide)] at H; exact H
            clear H
            have H := H1
            clear H1
            cases H
        · rw [if_neg c13] at H
          have c13b0 : (t161 == 0) = false := beq_eq_false_iff_ne.mpr c13
          have c13b1 : (t161 != 0) = true := bne_iff_ne.mpr c13
          cases H
      · replace c11 := Bool.eq_false_iff.mpr c11
        subst c11
        have H1 : none = some r := by rw [if_neg (show ¬ (false = true) by decide)] at H; exact H
        clear H
        have H := H1
        clear H1
        cases H
    · rw [if_neg c7] at H
      have c7b0 : (t149 == 0) = false := beq_eq_false_iff_ne.mpr c7
      have c7b1 : (t149 != 0) = true := bne_iff_ne.mpr c7
      replace H := Option.bind_eq_some_iff.mp H
      obtain ⟨t151, A1190, H⟩ := H
      replace H : (if t151 = true then ((wicketlaw04_num.f t149).bind fun t152 => (some (t152 == 1))) else none) = some r := H
      have A119 := Aside0.mk A1190
      clear A1190
      by_cases c120 : t151 = true
      · subst c120
        have H1 : ((wicketlaw04_num.f t149).bind fun t152 => (some (t152 == 1))) = some r := by rw [if_pos rfl] at H; exact H
        clear H
        have H := H1
        clear H1
        replace H := Option.bind_eq_some_iff.mp H
        obtain ⟨t152, A1210, H⟩ := H
        obtain rfl : t149 = t152 := Option.some.inj A1210
        replace H : (some (t149 == 1)) = some r := H
        have A121 := Aside0.mk A1210
        clear A1210
        obtain rfl := Option.some.inj H
        go_enter Tryd.func8, Tryd.ntmps8
        go_wp2_with (first | ((with_reducible refine gate_callee (f := 11) rfl ?_); refine goesL_ (some 15) rfl rfl Tryd.func11 (by kernel_rfl) rfl #[.string a0] rfl (by (try simp only [List.map_toArray, List.map_cons, List.map_nil]); first | done | rfl | (simp only [List.length_drop, List.length_take]; rfl)) ?_; (with_reducible refine (jtext_Parse.calls a0 t135 t136 t137 t140 t143 t144 _ ?side1 A2.out).mono ?_); (case side1 => exact GL_below HG.out (by repeat (first | (with_reducible first | exact HB.out | apply below_alloc | apply pw_below_drewN | apply below_drew1) | exact HB.out))); rintro e w122 ⟨v138, v141, rfl, ho0, ho1, hb⟩; refine ⟨_, rfl, ?_⟩; have n0_ := Aside0.mk (Kd.R_lower ho0 (below_size (by repeat (first | (with_reducible first | exact HB.out | apply below_alloc | apply pw_below_drewN | apply below_drew1) | exact HB.out)))); have n1_ := Aside0.mk (Kd.R_lower ho1 (below_size (by repeat (first | (with_reducible first | exact HB.out | apply below_alloc | apply pw_below_drewN | apply below_drew1) | exact HB.out)))); have n2_ := Aside0.mk (below_step (by repeat (first | (with_reducible first | exact HB.out | apply below_alloc | apply pw_below_drewN | apply below_drew1) | exact HB.out)) hb); clear HB; have HO139 := n0_; have HO142 := n1_; have HB := n2_; clear n0_ n1_ n2_; (try clear hb); (try clear hb2); (try clear hk); (try clear hi); (try clear ho0); (try clear ho1)) | ((with_reducible refine gate_dst (N := 3) rfl ?_); refine box_event ?hg (N := 3) ?hd (cs := #[.int .i64 0, .string (⟨#[]⟩ : ByteArray), .slice none 0 0, .slice none 0 0]) (t := 25) ?hr ?_; (case hd => rfl); (case hg => rfl); (case hr => first | (go_simp; done) | (go_simp; rfl)); intro gb145 hg w123 hbox hb; have n0_ := Aside0.mk (Kd.R_below (by (with_reducible repeat (first | apply Kd.R_alloc | apply Kd.R_drewN | apply Kd.R_drew)); exact HO139.out) hb); have n1_ := Aside0.mk (Kd.R_below (Kd.R_elderB (by (with_reducible repeat (first | apply Kd.R_alloc | apply Kd.R_drewN | apply Kd.R_drew)); exact HO142.out) gb145 (Nat.le_of_eq hg.symm)) hb); have n2_ := Aside0.mk (below_step (by repeat (first | (with_reducible first | exact HB.out | apply below_alloc | apply pw_below_drewN | apply below_drew1) | exact HB.out)) hb); have n3_ := Aside0.mk (hbox); have n4_ := Aside0.mk ((by rw [hg]; exact (below_size (by repeat (first | (with_reducible first | exact HB.out | apply below_alloc | apply pw_below_drewN | apply below_drew1) | exact HB.out))) : w.heap.size ≤ gb145)); have n5_ := Aside0.mk ((by rw [hg]; exact (below_size (by repeat (first | (with_reducible first | exact HB.out | apply below_alloc | apply pw_below_drewN | apply below_drew1) | exact HB.out))) : w.heap.size ≤ gb145)); clear HO139; clear HO142; clear HB; have HO139 := n0_; have HO142 := n1_; have HB := n2_; have BK145 := n3_; have GW145 := n4_; have GE145 := n5_; clear n0_ n1_ n2_ n3_ n4_ n5_; clear hb hbox hg; have hcz124_0 : w123.cell? ⟨gb145, 0, none⟩ = some (.int .i64 0) := (blk_cell BK145.out 0).trans rfl; have hcz124_1 : w123.cell? ⟨gb145, 1, none⟩ = some (.string (⟨#[]⟩ : ByteArray)) := (blk_cell BK145.out 1).trans rfl; have hcz124_2 : w123.cell? ⟨gb145, 2, none⟩ = some (.slice none 0 0) := (blk_cell BK145.out 2).trans rfl; have hcz124_3 : w123.cell? ⟨gb145, 3, none⟩ = some (.slice none 0 0) := (blk_cell BK145.out 3).trans rfl; have hfz124_0 := blk_frozen BK145.out 0; have hfz124_1 := blk_frozen BK145.out 1; have hfz124_2 := blk_frozen BK145.out 2; have hfz124_3 := blk_frozen BK145.out 3; obtain ⟨Ao125, co125, eo125⟩ := Kd.R_slice HO139.out; subst eo125; obtain ⟨Ao126, co126, eo126⟩ := Kd.R_slice HO142.out; subst eo126) | ((with_reducible refine gate_callee (f := 14) rfl ?_); refine goesL_ (some 20) rfl rfl Tryd.func14 (by kernel_rfl) rfl #[.int .i64 t143] rfl (by (try simp only [List.map_toArray, List.map_cons, List.map_nil]); first | done | rfl | (simp only [List.length_drop, List.length_take]; rfl)) ?_; (with_reducible refine (wicketlaw04_num.calls t143 t143 _ A3.out).mono ?_); rintro e w' ⟨rfl, ⟨nd, rfl⟩⟩; refine ⟨_, rfl, ?_⟩) | ((with_reducible refine gate_callee (f := 17) rfl ?_); refine goesL_ (some 25) rfl rfl Tryd.func17 (by kernel_rfl) rfl #[.agg #[.int .i64 t135, .string t136, .slice Ao125 t137.length co125, .slice Ao126 t140.length co126]] rfl (by (try simp only [List.map_toArray, List.map_cons, List.map_nil]); first | done | rfl | (simp only [List.length_drop, List.length_take]; rfl)) ?_; (with_reducible refine (jtext_Print.calls t135 t136 _ _ t137 _ _ t140 t148 t149 _ ?side1 ?side2 ?side3 ?side4 ?side5 A5.out).mono ?_); (case side1 => refine (Kd.R_reads' (e := 9) (base := w.heap.size) (ok := fun k_ => True) (n := t137.length) (c := co125) ?_).2.2; exact (by (with_reducible repeat (first | apply Kd.R_alloc | apply Kd.R_drewN | apply Kd.R_drew)); exact (Kd.R_mono (Kd.R_far (p := ⟨gb145, 3, none⟩) (Kd.R_far (p := ⟨gb145, 2, none⟩) (Kd.R_far (p := ⟨gb145, 1, none⟩) (Kd.R_far (p := ⟨gb145, 0, none⟩) (Kd.R_types HO139.out BK145.out (by decide)) (fun _ hk => hk.2) (.int .i64 t135)) (fun _ hk => hk.2) (.string t136)) (fun _ hk => hk.2) (.slice Ao125 t137.length co125)) (fun _ hk => hk.2) (.slice Ao126 t140.length co126)) (fun _ h_ => h_.1)))); (case side2 => exact (Kd.R_reads' HO139.out).2.1); (case side3 => refine (Kd.R_reads' (e := 25) (base := w.heap.size) (ok := fun k_ => (some k_ ≠ (.slice Ao125 t137.length co125 : Value).ownBlock ∧ k_ ≠ gb145)) (n := t140.length) (c := co126) ?_).2.2; exact (by (with_reducible repeat (first | apply Kd.R_alloc | apply Kd.R_drewN | apply Kd.R_drew)); exact (Kd.R_mono (Kd.R_far (p := ⟨gb145, 3, none⟩) (Kd.R_far (p := ⟨gb145, 2, none⟩) (Kd.R_far (p := ⟨gb145, 1, none⟩) (Kd.R_far (p := ⟨gb145, 0, none⟩) (Kd.R_mono HO142.out (fun k_ hk => (⟨hk, hk.2⟩ : _ ∧ k_ ≠ gb145))) (fun _ hk => hk.2) (.int .i64 t135)) (fun _ hk => hk.2) (.string t136)) (fun _ hk => hk.2) (.slice Ao125 t137.length co125)) (fun _ hk => hk.2) (.slice Ao126 t140.length co126)) (fun _ h_ => h_.1)))); (case side4 => exact (Kd.R_reads' HO142.out).2.1); (case side5 => exact GL_below HG.out (by repeat (first | (with_reducible first | exact HB.out | apply below_alloc | apply pw_below_drewN | apply below_drew1 | refine below_set ?_ GE145.out) | exact HB.out))); rintro e w127 ⟨rfl, hb⟩; refine ⟨_, rfl, ?_⟩; have n0_ := Aside0.mk (Kd.R_below (by (with_reducible repeat (first | apply Kd.R_alloc | apply Kd.R_drewN | apply Kd.R_drew)); exact (Kd.R_mono (Kd.R_far (p := ⟨gb145, 3, none⟩) (Kd.R_far (p := ⟨gb145, 2, none⟩) (Kd.R_far (p := ⟨gb145, 1, none⟩) (Kd.R_far (p := ⟨gb145, 0, none⟩) (Kd.R_types HO139.out BK145.out (by decide)) (fun _ hk => hk.2) (.int .i64 t135)) (fun _ hk => hk.2) (.string t136)) (fun _ hk => hk.2) (.slice Ao125 t137.length co125)) (fun _ hk => hk.2) (.slice Ao126 t140.length co126)) (fun _ h_ => h_.1))) hb); have n1_ := Aside0.mk (Kd.R_below (by (with_reducible repeat (first | apply Kd.R_alloc | apply Kd.R_drewN | apply Kd.R_drew)); exact (Kd.R_mono (Kd.R_far (p := ⟨gb145, 3, none⟩) (Kd.R_far (p := ⟨gb145, 2, none⟩) (Kd.R_far (p := ⟨gb145, 1, none⟩) (Kd.R_far (p := ⟨gb145, 0, none⟩) (Kd.R_mono HO142.out (fun k_ hk => (⟨hk, hk.2⟩ : _ ∧ k_ ≠ gb145))) (fun _ hk => hk.2) (.int .i64 t135)) (fun _ hk => hk.2) (.string t136)) (fun _ hk => hk.2) (.slice Ao125 t137.length co125)) (fun _ hk => hk.2) (.slice Ao126 t140.length co126)) (fun _ h_ => h_.1))) hb); have n2_ := Aside0.mk (blk_below (g := gb145) (o := .cells #[.int .i64 t135, .string t136, .slice Ao125 t137.length co125, .slice Ao126 t140.length co126] 25 (0, 0)) (by (with_reducible repeat (first | refine blk_drewN ?_ _ | refine blk_drew ?_ | refine blk_alloc ?_ _)); refine blk_put (cs := #[.int .i64 t135, .string t136, .slice Ao125 t137.length co125, .slice none 0 0]) ?_ 3 _ rfl; (with_reducible repeat (first | refine blk_drewN ?_ _ | refine blk_drew ?_ | refine blk_alloc ?_ _)); refine blk_put (cs := #[.int .i64 t135, .string t136, .slice none 0 0, .slice none 0 0]) ?_ 2 _ rfl; (with_reducible repeat (first | refine blk_drewN ?_ _ | refine blk_drew ?_ | refine blk_alloc ?_ _)); refine blk_put (cs := #[.int .i64 t135, .string (⟨#[]⟩ : ByteArray), .slice none 0 0, .slice none 0 0]) ?_ 1 _ rfl; (with_reducible repeat (first | refine blk_drewN ?_ _ | refine blk_drew ?_ | refine blk_alloc ?_ _)); refine blk_put (cs := #[.int .i64 0, .string (⟨#[]⟩ : ByteArray), .slice none 0 0, .slice none 0 0]) ?_ 0 _ rfl; (with_reducible repeat (first | refine blk_drewN ?_ _ | refine blk_drew ?_ | refine blk_alloc ?_ _)); exact BK145.out) hb); have n3_ := Aside0.mk (below_step (by repeat (first | (with_reducible first | exact HB.out | apply below_alloc | apply pw_below_drewN | apply below_drew1 | refine below_set ?_ GE145.out) | exact HB.out)) hb); clear HO139; clear HO142; clear BK145; clear HB; have HO139 := n0_; have HO142 := n1_; have BK145 := n2_; have HB := n3_; clear n0_ n1_ n2_ n3_; (try clear hb); (try clear hb2); (try clear hk); (try clear hi)) | ((with_reducible refine gate_callee (f := 14) rfl ?_); refine goesL_ (some 29) rfl rfl Tryd.func14 (by kernel_rfl) rfl #[.int .i64 t149] rfl (by (try simp only [List.map_toArray, List.map_cons, List.map_nil]); first | done | rfl | (simp only [List.length_drop, List.length_take]; rfl)) ?_; (with_reducible refine (wicketlaw04_num.calls t149 t149 _ A6.out).mono ?_); rintro e w' ⟨rfl, ⟨nd, rfl⟩⟩; refine ⟨_, rfl, ?_⟩) | ((with_reducible refine gate_callee (f := 13) rfl ?_); refine goesL_ (some 31) rfl rfl Tryd.func13 (by kernel_rfl) rfl #[] rfl (by (try simp only [List.map_toArray, List.map_cons, List.map_nil]); first | done | rfl | (simp only [List.length_drop, List.length_take]; rfl)) ?_; (with_reducible refine (wicketlaw04_live.calls  true _ ?side1 A119.out).mono ?_); (case side1 => exact GL_below HG.out (by repeat (first | (with_reducible first | exact HB.out | apply below_alloc | apply pw_below_drewN | apply below_drew1 | refine below_set ?_ GE145.out) | exact HB.out))); rintro e w128 ⟨rfl, hb⟩; refine ⟨_, rfl, ?_⟩; have n0_ := Aside0.mk (Kd.R_below (by (with_reducible repeat (first | apply Kd.R_alloc | apply Kd.R_drewN | apply Kd.R_drew)); exact HO139.out) hb); have n1_ := Aside0.mk (Kd.R_below (by (with_reducible repeat (first | apply Kd.R_alloc | apply Kd.R_drewN | apply Kd.R_drew)); exact HO142.out) hb); have n2_ := Aside0.mk (blk_below (g := gb145) (o := .cells #[.int .i64 t135, .string t136, .slice Ao125 t137.length co125, .slice Ao126 t140.length co126] 25 (0, 0)) (by (with_reducible repeat (first | refine blk_drewN ?_ _ | refine blk_drew ?_ | refine blk_alloc ?_ _)); exact BK145.out) hb); have n3_ := Aside0.mk (below_step (by repeat (first | (with_reducible first | exact HB.out | apply below_alloc | apply pw_below_drewN | apply below_drew1 | refine below_set ?_ GE145.out) | exact HB.out)) hb); clear HO139; clear HO142; clear BK145; clear HB; have HO139 := n0_; have HO142 := n1_; have BK145 := n2_; have HB := n3_; clear n0_ n1_ n2_ n3_; (try clear hb); (try clear hb2); (try clear hk); (try clear hi)) | (go_at_call 14; (with_reducible refine (wicketlaw04_num.calls t149 t149 _ A121.out).mono ?_); rintro e w' ⟨rfl, ⟨nd, rfl⟩⟩))
        go_ret
        exact ⟨by first | rfl | (simp [errW_none, errW_some] <;> rfl) | (simp [*, errW_none, errW_some] <;> rfl), by repeat (first | (with_reducible first | exact HB.out | apply below_alloc | apply pw_below_drewN | apply below_drew1 | refine below_set ?_ GE145.out) | exact HB.out)⟩
      · replace c120 := Bool.eq_false_iff.mpr c120
        subst c120
        have H1 : none = some r := by rw [if_neg (show ¬ (false = true) by decide)] at H; exact H
        clear H
        have H := H1
        clear H1
        cases H
  · rw [if_neg c4] at H
    have c4b0 : (t143 == 0) = false := beq_eq_false_iff_ne.mpr c4
    have c4b1 : (t143 != 0) = true := bne_iff_ne.mpr c4
    replace H := Option.bind_eq_some_iff.mp H
    obtain ⟨t147, A1360, H⟩ := H
    replace H : (some t147) = some r := H
    have A136 := Aside0.mk A1360
    clear A1360
    obtain rfl := Option.some.inj H
    go_enter Tryd.func8, Tryd.ntmps8
    go_wp2_with (first | ((with_reducible refine gate_callee (f := 11) rfl ?_); refine goesL_ (some 15) rfl rfl Tryd.func11 (by kernel_rfl) rfl #[.string a0] rfl (by (try simp only [List.map_toArray, List.map_cons, List.map_nil]); first | done | rfl | (simp only [List.length_drop, List.length_take]; rfl)) ?_; (with_reducible refine (jtext_Parse.calls a0 t135 t136 t137 t140 t143 t144 _ ?side1 A2.out).mono ?_); (case side1 => exact GL_below HG.out (by repeat (first | (with_reducible first | exact HB.out | apply below_alloc | apply pw_below_drewN | apply below_drew1) | exact HB.out))); rintro e w137 ⟨v138, v141, rfl, ho0, ho1, hb⟩; refine ⟨_, rfl, ?_⟩; have n0_ := Aside0.mk (Kd.R_lower ho0 (below_size (by repeat (first | (with_reducible first | exact HB.out | apply below_alloc | apply pw_below_drewN | apply below_drew1) | exact HB.out)))); have n1_ := Aside0.mk (Kd.R_lower ho1 (below_size (by repeat (first | (with_reducible first | exact HB.out | apply below_alloc | apply pw_below_drewN | apply below_drew1) | exact HB.out)))); have n2_ := Aside0.mk (below_step (by repeat (first | (with_reducible first | exact HB.out | apply below_alloc | apply pw_below_drewN | apply below_drew1) | exact HB.out)) hb); clear HB; have HO139 := n0_; have HO142 := n1_; have HB := n2_; clear n0_ n1_ n2_; (try clear hb); (try clear hb2); (try clear hk); (try clear hi); (try clear ho0); (try clear ho1)) | ((with_reducible refine gate_dst (N := 3) rfl ?_); refine box_event ?hg (N := 3) ?hd (cs := #[.int .i64 0, .string (⟨#[]⟩ : ByteArray), .slice none 0 0, .slice none 0 0]) (t := 25) ?hr ?_; (case hd => rfl); (case hg => rfl); (case hr => first | (go_simp; done) | (go_simp; rfl)); intro gb145 hg w138 hbox hb; have n0_ := Aside0.mk (Kd.R_below (by (with_reducible repeat (first | apply Kd.R_alloc | apply Kd.R_drewN | apply Kd.R_drew)); exact HO139.out) hb); have n1_ := Aside0.mk (Kd.R_below (Kd.R_elderB (by (with_reducible repeat (first | apply Kd.R_alloc | apply Kd.R_drewN | apply Kd.R_drew)); exact HO142.out) gb145 (Nat.le_of_eq hg.symm)) hb); have n2_ := Aside0.mk (below_step (by repeat (first | (with_reducible first | exact HB.out | apply below_alloc | apply pw_below_drewN | apply below_drew1) | exact HB.out)) hb); have n3_ := Aside0.mk (hbox); have n4_ := Aside0.mk ((by rw [hg]; exact (below_size (by repeat (first | (with_reducible first | exact HB.out | apply below_alloc | apply pw_below_drewN | apply below_drew1) | exact HB.out))) : w.heap.size ≤ gb145)); have n5_ := Aside0.mk ((by rw [hg]; exact (below_size (by repeat (first | (with_reducible first | exact HB.out | apply below_alloc | apply pw_below_drewN | apply below_drew1) | exact HB.out))) : w.heap.size ≤ gb145)); clear HO139; clear HO142; clear HB; have HO139 := n0_; have HO142 := n1_; have HB := n2_; have BK145 := n3_; have GW145 := n4_; have GE145 := n5_; clear n0_ n1_ n2_ n3_ n4_ n5_; clear hb hbox hg; have hcz139_0 : w138.cell? ⟨gb145, 0, none⟩ = some (.int .i64 0) := (blk_cell BK145.out 0).trans rfl; have hcz139_1 : w138.cell? ⟨gb145, 1, none⟩ = some (.string (⟨#[]⟩ : ByteArray)) := (blk_cell BK145.out 1).trans rfl; have hcz139_2 : w138.cell? ⟨gb145, 2, none⟩ = some (.slice none 0 0) := (blk_cell BK145.out 2).trans rfl; have hcz139_3 : w138.cell? ⟨gb145, 3, none⟩ = some (.slice none 0 0) := (blk_cell BK145.out 3).trans rfl; have hfz139_0 := blk_frozen BK145.out 0; have hfz139_1 := blk_frozen BK145.out 1; have hfz139_2 := blk_frozen BK145.out 2; have hfz139_3 := blk_frozen BK145.out 3; obtain ⟨Ao140, co140, eo140⟩ := Kd.R_slice HO139.out; subst eo140; obtain ⟨Ao141, co141, eo141⟩ := Kd.R_slice HO142.out; subst eo141) | ((with_reducible refine gate_callee (f := 14) rfl ?_); refine goesL_ (some 20) rfl rfl Tryd.func14 (by kernel_rfl) rfl #[.int .i64 t143] rfl (by (try simp only [List.map_toArray, List.map_cons, List.map_nil]); first | done | rfl | (simp only [List.length_drop, List.length_take]; rfl)) ?_; (with_reducible refine (wicketlaw04_num.calls t143 t143 _ A3.out).mono ?_); rintro e w' ⟨rfl, ⟨nd, rfl⟩⟩; refine ⟨_, rfl, ?_⟩) | ((with_reducible refine gate_callee (f := 13) rfl ?_); refine goesL_ (some 22) rfl rfl Tryd.func13 (by kernel_rfl) rfl #[] rfl (by (try simp only [List.map_toArray, List.map_cons, List.map_nil]); first | done | rfl | (simp only [List.length_drop, List.length_take]; rfl)) ?_; (with_reducible refine (wicketlaw04_live.calls  t147 _ ?side1 A136.out).mono ?_); (case side1 => exact GL_below HG.out (by repeat (first | (with_reducible first | exact HB.out | apply below_alloc | apply pw_below_drewN | apply below_drew1 | refine below_set ?_ GE145.out) | exact HB.out))); rintro e w142 ⟨rfl, hb⟩; refine ⟨_, rfl, ?_⟩; have n0_ := Aside0.mk (Kd.R_below (by (with_reducible repeat (first | apply Kd.R_alloc | apply Kd.R_drewN | apply Kd.R_drew)); exact (Kd.R_mono (Kd.R_far (p := ⟨gb145, 3, none⟩) (Kd.R_far (p := ⟨gb145, 2, none⟩) (Kd.R_far (p := ⟨gb145, 1, none⟩) (Kd.R_far (p := ⟨gb145, 0, none⟩) (Kd.R_types HO139.out BK145.out (by decide)) (fun _ hk => hk.2) (.int .i64 t135)) (fun _ hk => hk.2) (.string t136)) (fun _ hk => hk.2) (.slice Ao140 t137.length co140)) (fun _ hk => hk.2) (.slice Ao141 t140.length co141)) (fun _ h_ => h_.1))) hb); have n1_ := Aside0.mk (Kd.R_below (by (with_reducible repeat (first | apply Kd.R_alloc | apply Kd.R_drewN | apply Kd.R_drew)); exact (Kd.R_mono (Kd.R_far (p := ⟨gb145, 3, none⟩) (Kd.R_far (p := ⟨gb145, 2, none⟩) (Kd.R_far (p := ⟨gb145, 1, none⟩) (Kd.R_far (p := ⟨gb145, 0, none⟩) (Kd.R_mono HO142.out (fun k_ hk => (⟨hk, hk.2⟩ : _ ∧ k_ ≠ gb145))) (fun _ hk => hk.2) (.int .i64 t135)) (fun _ hk => hk.2) (.string t136)) (fun _ hk => hk.2) (.slice Ao140 t137.length co140)) (fun _ hk => hk.2) (.slice Ao141 t140.length co141)) (fun _ h_ => h_.1))) hb); have n2_ := Aside0.mk (blk_below (g := gb145) (o := .cells #[.int .i64 t135, .string t136, .slice Ao140 t137.length co140, .slice Ao141 t140.length co141] 25 (0, 0)) (by (with_reducible repeat (first | refine blk_drewN ?_ _ | refine blk_drew ?_ | refine blk_alloc ?_ _)); refine blk_put (cs := #[.int .i64 t135, .string t136, .slice Ao140 t137.length co140, .slice none 0 0]) ?_ 3 _ rfl; (with_reducible repeat (first | refine blk_drewN ?_ _ | refine blk_drew ?_ | refine blk_alloc ?_ _)); refine blk_put (cs := #[.int .i64 t135, .string t136, .slice none 0 0, .slice none 0 0]) ?_ 2 _ rfl; (with_reducible repeat (first | refine blk_drewN ?_ _ | refine blk_drew ?_ | refine blk_alloc ?_ _)); refine blk_put (cs := #[.int .i64 t135, .string (⟨#[]⟩ : ByteArray), .slice none 0 0, .slice none 0 0]) ?_ 1 _ rfl; (with_reducible repeat (first | refine blk_drewN ?_ _ | refine blk_drew ?_ | refine blk_alloc ?_ _)); refine blk_put (cs := #[.int .i64 0, .string (⟨#[]⟩ : ByteArray), .slice none 0 0, .slice none 0 0]) ?_ 0 _ rfl; (with_reducible repeat (first | refine blk_drewN ?_ _ | refine blk_drew ?_ | refine blk_alloc ?_ _)); exact BK145.out) hb); have n3_ := Aside0.mk (below_step (by repeat (first | (with_reducible first | exact HB.out | apply below_alloc | apply pw_below_drewN | apply below_drew1 | refine below_set ?_ GE145.out) | exact HB.out)) hb); clear HO139; clear HO142; clear BK145; clear HB; have HO139 := n0_; have HO142 := n1_; have BK145 := n2_; have HB := n3_; clear n0_ n1_ n2_ n3_; (try clear hb); (try clear hb2); (try clear hk); (try clear hi)))
    go_ret
    exact ⟨by first | rfl | (simp [errW_none, errW_some] <;> rfl) | (simp [*, errW_none, errW_some] <;> rfl), by repeat (first | (with_reducible first | exact HB.out | apply below_alloc | apply pw_below_drewN | apply below_drew1 | refine below_set ?_ GE145.out) | exact HB.out)⟩

end Go.Proofs.YtaalajhmfdcalaaDoor.X
namespace Go.Proofs.YtaalajhmfdcalaaDoor.X
open Go.RowKit Go.Lib Go.Proofs.YtaalajhmfdcalaaDoorW.PrintWords
/-- A fault e at p' of what begins at p: the text ends there, or, cut there, it is found to end there. -/
def Cut (s : List UInt8) (p e p' : Nat) (G : List UInt8 → Prop) : Prop := (e = 3 ∧ p' = s.length) ∨ ((e ≠ 3 ∧ e ≠ 0) ∧ p ≤ p' ∧ p' < s.length ∧ G (s.take p'))
theorem Cut.imp {s : List UInt8} {p q e p' : Nat} {G G' : List UInt8 → Prop} (h : Cut s q e p' G) (hp : p ≤ q) (hg : ∀ t, q ≤ p' → p' < s.length → t = s.take p' → G t → G' t) : Cut s p e p' G' := by
  rcases h with h | ⟨h1, h2, h3, h4⟩
  · exact .inl h
  · exact .inr ⟨h1, by omega, h3, hg _ h2 h3 rfl h4⟩
theorem len_take {s : List UInt8} {n : Nat} (h : n < s.length) : (s.take n).length = n := by rw [List.length_take]; omega
theorem none_take {s : List UInt8} {n i : Nat} (h : n < s.length) (hi : n ≤ i) : (s.take n)[i]? = none := by rw [List.getElem?_eq_none_iff, len_take h]; exact hi
theorem at_take {s : List UInt8} {n i : Nat} (hi : i < n) : (s.take n)[i]? = s[i]? := List.getElem?_take_of_lt hi
theorem wordF_tr (s : List UInt8) : ∀ (w : List UInt8) (p e p' : Nat), wordF s w p = .err e p' → Cut s p e p' (fun t => wordF t w p = .err 3 p')
  | [], p, e, p', h => by cases h
  | c :: w, p, e, p', h => by
    cases hc : s[p]? with
    | none => rw [wordF_short _ _ _ _ hc] at h; injection h with h1 h2; exact .inl ⟨h1.symm, h2.symm⟩
    | some x =>
      have hlt := (List.getElem?_eq_some_iff.1 hc).1
      by_cases hx : x = c
      · have hc' : s[p]? = some c := by rw [hc, hx]
        rw [wordF_on _ _ _ _ hc'] at h
        refine (wordF_tr s w _ _ _ h).imp (Nat.le_succ p) fun t h1 h2 ht hg => ?_
        rw [wordF_on _ _ _ _ (by rw [ht, at_take (by omega)]; exact hc')]
        exact hg
      · rw [wordF_bad _ _ _ _ _ hc hx] at h
        injection h with h1 h2
        subst h1; subst h2
        exact .inr ⟨by decide, Nat.le_refl _, hlt, by dsimp only; rw [wordF_short _ _ _ _ (none_take hlt (Nat.le_refl _)), len_take hlt]⟩
theorem fourF_tr (s : List UInt8) : ∀ (k x p e p' : Nat), fourF s k x p = .err e p' → Cut s p e p' (fun t => fourF t k x p = .err 3 p')
  | 0, x, p, e, p', h => by cases h
  | k + 1, x, p, e, p', h => by
    cases hc : s[p]? with
    | none => rw [fourF_short _ _ _ _ hc] at h; injection h with h1 h2; exact .inl ⟨h1.symm, h2.symm⟩
    | some c =>
      have hlt := (List.getElem?_eq_some_iff.1 hc).1
      cases hx : hexF c with
      | none =>
        rw [fourF_bad _ _ _ _ _ hc hx] at h
        injection h with h1 h2
        subst h1; subst h2
        exact .inr ⟨by decide, Nat.le_refl _, hlt, by dsimp only; rw [fourF_short _ _ _ _ (none_take hlt (Nat.le_refl _)), len_take hlt]⟩
      | some d =>
        rw [fourF_on _ _ _ _ _ _ hc hx] at h
        refine (fourF_tr s k _ _ _ _ h).imp (Nat.le_succ p) fun t h1 h2 ht hg => ?_
        rw [fourF_on _ _ _ _ _ _ (by rw [ht, at_take (by omega)]; exact hc) hx]
        exact hg
theorem mustF_tr (s : List UInt8) (f : Nat) : ∀ (w : List UInt8) (p e p' : Nat), mustF s f w p = .err e p' → (e = 3 ∧ p' = s.length ) ∨ (e = 43 ∧ p' = f)
  | [], p, e, p', h => by cases h
  | c :: w, p, e, p', h => by
    cases hc : s[p]? with
    | none => rw [mustF_short _ _ _ _ _ hc] at h; injection h with h1 h2; exact .inl ⟨h1.symm, h2.symm⟩
    | some x =>
      by_cases hx : x = c
      · rw [mustF_on _ _ _ _ _ (by rw [hc, hx])] at h
        exact mustF_tr s f w _ _ _ h
      · rw [mustF_bad _ _ _ _ _ _ hc hx] at h
        injection h with h1 h2
        exact .inr ⟨h1.symm, h2.symm⟩
theorem escF_short (s : List UInt8) (p : Nat) (h : s[p + 1]? = none) : escF s p = .err 3 s.length := by unfold escF; rw [h]
theorem escF_from {s : List UInt8} {p : Nat} (hp : p < s.length) : Cut s p 43 p (fun t => escF t p = .err 3 p) :=
  .inr ⟨by decide, Nat.le_refl _, hp, by dsimp only; rw [escF_short _ _ (none_take hp (by omega)), len_take hp]⟩
theorem pairF_tr {s : List UInt8} {p x p1 e p' : Nat} (hp : p < s.length) (h1 : p + 6 ≤ p1) (h : pairF s p x p1 = .err e p') : (e = 43 ∧ p' = p) ∨ Cut s p1 e p' (fun t => pairF t p x p1 = .err 3 p') := by
  unfold pairF at h
  cases hm : mustF s p [92, 117] p1 with
  | err e1 q1 =>
    rw [hm] at h
    simp only at h
    injection h with ha hb
    subst ha; subst hb
    rcases mustF_tr s p _ _ _ _ hm with ⟨h2, h3⟩ | ⟨h2, h3⟩
    · exact .inr (.inl ⟨h2, h3⟩)
    · exact .inl ⟨h2, h3⟩
  | val u p2 =>
    rw [hm] at h
    have hm2 := (mustF_val _ _ _ _ _ _ hm).1
    simp only [List.length_cons, List.length_nil] at hm2
    simp only at h
    cases hf : fourF s 4 0 p2 with
    | err e1 q1 =>
      rw [hf] at h
      simp only at h
      injection h with ha hb
      subst ha; subst hb
      refine .inr ((fourF_tr s _ _ _ _ _ hf).imp (by omega) fun t k1 k2 ht hg => ?_)
      unfold pairF
      rw [mustF_ag p _ _ _ _ hm (ht ▸ Ag.take s q1 p2 (by omega) k1)]
      simp only
      rw [hg]
    | val y p3 =>
      rw [hf] at h
      simp only at h
      split at h
      · injection h with ha hb
        exact .inl ⟨ha.symm, hb.symm⟩
      · cases h
theorem escF_tr {s : List UInt8} {p e p' : Nat} (hp : p < s.length) (h : escF s p = .err e p') : Cut s p e p' (fun t => escF t p = .err 3 p') := by
  have h0 := h
  unfold escF at h
  cases hc : s[p + 1]? with
  | none => rw [hc] at h; simp only at h; injection h with h1 h2; exact .inl ⟨h1.symm, h2.symm⟩
  | some c =>
    have hlt := (List.getElem?_eq_some_iff.1 hc).1
    rw [hc] at h
    simp only at h
    cases hx : escdF c with
    | some x => rw [hx] at h; cases h
    | none =>
      rw [hx] at h
      simp only at h
      split at h
      · rename_i h117
        have go : ∀ t : List UInt8, t[p + 1]? = some c → ∀ o : Out Nat, (match fourF t 4 0 (p + 2) with
            | .err e p => .err e p
            | .val x p1 => if 0xdc00 ≤ x ∧ x ≤ 0xdfff then .err 43 p else if 0xd800 ≤ x ∧ x ≤ 0xdbff then pairF t p x p1 else .val x p1) = o → escF t p = o := by
          intro t ht o ho
          rw [← ho]
          unfold escF
          rw [ht]
          simp only [hx, if_pos h117]
          rfl
        cases hf : fourF s 4 0 (p + 2) with
        | err e1 q1 =>
          rw [hf] at h
          simp only at h
          injection h with ha hb
          subst ha; subst hb
          refine (fourF_tr s _ _ _ _ _ hf).imp (by omega) fun t k1 k2 ht hg => ?_
          refine go t (by rw [ht, at_take (by omega)]; exact hc) _ ?_
          rw [hg]
        | val x p1 =>
          have hv := fourF_val _ _ _ _ _ _ hf
          rw [hf] at h
          simp only at h
          split at h
          · injection h with ha hb
            subst ha; subst hb
            exact escF_from hp
          · rename_i hn1
            split at h
            · rename_i hn2
              rcases pairF_tr hp (by omega) h with ⟨k1, k2⟩ | hcut
              · subst k1; subst k2; exact escF_from hp
              · refine hcut.imp (by omega) fun t k1 k2 ht hg => ?_
                refine go t (by rw [ht, at_take (by omega)]; exact hc) _ ?_
                rw [fourF_ag _ _ _ _ _ hf (ht ▸ Ag.take s p' p1 (by omega) k1)]
                simp only
                rw [if_neg hn1, if_pos hn2]
                exact hg
            · cases h
      · injection h with ha hb
        subst ha; subst hb
        exact .inr ⟨by decide, by omega, hlt, by dsimp only; rw [escF_short _ _ (none_take hlt (Nat.le_refl _)), len_take hlt]⟩
theorem numberF_tr {s : List UInt8} {p e p' : Nat} (h : numberF s p = .err e p') : Cut s p e p' (fun t => numberF t p = .err 3 p') := by
  unfold numberF at h
  split at h
  · cases h
  · rename_i hb
    split at h
    · injection h with h1 h2; exact .inl ⟨h1.symm, h2.symm⟩
    · rename_i hl
      injection h with h1 h2
      subst h1; subst h2
      refine .inr ⟨by decide, by omega, by omega, ?_⟩
      have hlt : p + (litF (s.drop p)).1 < s.length := by omega
      have e : litF ((s.take (p + (litF (s.drop p)).1)).drop p) = litF (s.drop p) := litF_ag rfl (Ag.take s _ _ (by omega) (Nat.le_refl _)).drop
      show numberF (s.take (p + (litF (s.drop p)).1)) p = _
      unfold numberF
      rw [e, if_neg hb, len_take hlt, if_pos (Nat.le_refl _)]
theorem textF_tr (s : List UInt8) : ∀ (k : Nat) (out : List UInt8) (p e p' : Nat), textF s k out p = some (.err e p') → Cut s p e p' (fun t => textF t k out p = some (.err 3 p'))
  | 0, out, p, e, p', h => by simp [textF] at h
  | k + 1, out, p, e, p', h => by
    cases hc : s[p]? with
    | none => rw [textF_short _ _ _ _ hc] at h; injection h with h; injection h with h1 h2; exact .inl ⟨h1.symm, h2.symm⟩
    | some c =>
      have hlt := (List.getElem?_eq_some_iff.1 hc).1
      have here : ∀ e, (e ≠ 3 ∧ e ≠ 0) → Cut s p e p (fun t => textF t (k + 1) out p = some (.err 3 p)) := fun e he =>
        .inr ⟨he, Nat.le_refl _, hlt, by dsimp only; rw [textF_short _ _ _ _ (none_take hlt (Nat.le_refl _)), len_take hlt]⟩
      by_cases h34 : c = 34
      · rw [textF_end _ _ _ _ _ hc h34] at h; injection h with h; cases h
      · by_cases h32 : c.toNat < 32
        · rw [textF_low _ _ _ _ _ hc h32] at h
          injection h with h; injection h with h1 h2
          subst h1; subst h2
          exact here _ (by decide)
        · by_cases h92 : c = 92
          · rw [textF_esc _ _ _ _ _ hc h92] at h
            cases hes : escF s p with
            | err e1 q1 =>
              rw [hes] at h
              simp only at h
              injection h with h; injection h with h1 h2
              subst h1; subst h2
              rcases escF_tr hlt hes with hl | ⟨k1, k2, k3, k4⟩
              · exact .inl hl
              · by_cases hq : q1 = p
                · subst hq; exact here _ k1
                · refine .inr ⟨k1, k2, k3, ?_⟩
                  show textF (s.take q1) (k + 1) out p = _
                  rw [textF_esc _ _ _ _ _ (by rw [at_take (by omega)]; exact hc) h92, k4]
            | val r q1 =>
              rw [hes] at h
              have hv := escF_val _ _ _ _ hes
              refine (textF_tr s k _ _ _ _ h).imp (by omega) fun t k1 k2 ht hg => ?_
              rw [textF_esc _ _ _ _ _ (by rw [ht, at_take (by omega)]; exact hc) h92, escF_ag hes (ht ▸ Ag.take s p' q1 (by omega) k1)]
              exact hg
          · by_cases h128 : c.toNat < 128
            · rw [textF_ascii _ _ _ _ _ hc h34 h32 h92 h128] at h
              refine (textF_tr s k _ _ _ _ h).imp (by omega) fun t k1 k2 ht hg => ?_
              rw [textF_ascii _ _ _ _ _ (by rw [ht, at_take (by omega)]; exact hc) h34 h32 h92 h128]
              exact hg
            · rw [textF_rune _ _ _ _ _ hc h128] at h
              split at h
              · split at h
                · injection h with h; injection h with h1 h2
                  subst h1; subst h2
                  exact here _ (by decide)
                · injection h with h; injection h with h1 h2
                  exact .inl ⟨h1.symm, h2.symm⟩
              · rename_i hv
                have hsz : (ByteArray.mk (s.drop p).toArray).size = s.length - p := by show (s.drop p).toArray.size = _; simp
                have hw := dec_width ⟨(s.drop p).toArray⟩ (by omega)
                refine (textF_tr s k _ _ _ _ h).imp (by omega) fun t k1 k2 ht hg => ?_
                have ha : Ag s t (p + (decodeGo ⟨(s.drop p).toArray⟩).2) := ht ▸ Ag.take s p' _ (by omega) k1
                rw [textF_rune _ _ _ _ _ (by rw [ht, at_take (by omega)]; exact hc) h128, decG_ag hlt ha (Nat.le_refl _) hv, if_neg hv, ha.takeEq]
                exact hg
section
variable {α : Type}
theorem sevL_tr {s : List UInt8} {en : UInt8} {one : List UInt8 → α → Nat → Option (Out α)} (hv : ∀ a q a' q', q ≤ s.length → one s a q = some (.val a' q') → q < q' ∧ q' ≤ s.length) (ho : ∀ t a q a' q', q ≤ s.length → one s a q = some (.val a' q') → Ag s t q' → one t a q = some (.val a' q'))
    (he : ∀ a q e p', q ≤ s.length → one s a q = some (.err e p') → Cut s q e p' (fun t => one t a q = some (.err 3 p'))) :
    ∀ (k : Nat) (a : α) (q e p' : Nat), q ≤ s.length → sevL (one s) s en k a q = some (.err e p') → Cut s q e p' (fun t => sevL (one t) t en k a q = some (.err 3 p'))
  | 0, a, q, e, p', hq, h => by simp [sevL] at h
  | k + 1, a, q, e, p', hq, h => by
    rcases sevL_item _ _ _ _ _ _ _ h with ⟨e1, p1, h1, h2⟩ | ⟨b, q1, h1, h2⟩
    · injection h2 with ha hb
      subst ha; subst hb
      refine (he _ _ _ _ hq h1).imp (Nat.le_refl _) fun t k1 k2 ht hg => ?_
      unfold sevL
      rw [hg]
    · obtain ⟨g1, g2⟩ := hv _ _ _ _ hq h1
      have g3 := blanks_ge s q1
      have go : ∀ n, n < s.length → blanksF s q1 ≤ n → one (s.take n) a q = some (.val b q1) ∧ blanksF (s.take n) q1 = blanksF s q1 := fun n hn hb =>
        ⟨ho _ _ _ _ _ hq h1 (Ag.take s n q1 (by omega) (by omega)), blanks_agree rfl (Ag.take s n _ (by omega) hb)⟩
      rcases h2 with ⟨_, h2⟩ | ⟨c, hc, h2⟩
      · injection h2 with ha hb
        exact .inl ⟨ha, hb⟩
      · have hlt := (List.getElem?_eq_some_iff.1 hc).1
        rcases h2 with ⟨_, h2⟩ | ⟨hne, h44, h2⟩ | ⟨hne, h44, h2⟩
        · cases h2
        · have g5 := blanks_le s (blanksF s q1 + 1) (by omega)
          have g6 := blanks_ge s (blanksF s q1 + 1)
          refine (sevL_tr hv ho he k _ _ _ _ g5 h2).imp (by omega) fun t k1 k2 ht hg => ?_
          obtain ⟨z1, z2⟩ := go p' (by omega) (by omega)
          subst ht
          unfold sevL
          rw [z1]
          simp only [z2, at_take (show blanksF s q1 < p' by omega), hc, if_neg hne, if_pos h44]
          rw [blanks_agree (s := s) (p := blanksF s q1 + 1) rfl (Ag.take s p' _ (by omega) k1)]
          exact hg
        · injection h2 with ha hb
          subst ha; subst hb
          obtain ⟨z1, z2⟩ := go _ hlt (Nat.le_refl _)
          refine .inr ⟨by decide, by omega, hlt, ?_⟩
          show sevL (one (s.take (blanksF s q1))) (s.take (blanksF s q1)) en (k + 1) a q = _
          unfold sevL
          rw [z1]
          simp only [z2, none_take hlt (Nat.le_refl _), len_take hlt]
theorem sevF_tr {s : List UInt8} {en : UInt8} {one : List UInt8 → α → Nat → Option (Out α)} (hv : ∀ a q a' q', q ≤ s.length → one s a q = some (.val a' q') → q < q' ∧ q' ≤ s.length) (ho : ∀ t a q a' q', q ≤ s.length → one s a q = some (.val a' q') → Ag s t q' → one t a q = some (.val a' q'))
    (he : ∀ a q e p', q ≤ s.length → one s a q = some (.err e p') → Cut s q e p' (fun t => one t a q = some (.err 3 p'))) (k : Nat) (a : α) (p e p' : Nat) (hp : p < s.length) (h : sevF (one s) s en k a p = some (.err e p')) : Cut s (p + 1) e p' (fun t => sevF (one t) t en k a p = some (.err 3 p')) := by
  unfold sevF at h
  have g5 := blanks_le s (p + 1) (by omega)
  have g6 := blanks_ge s (p + 1)
  cases hc : s[blanksF s (p + 1)]? with
  | none => rw [hc] at h; injection h with h; injection h with h1 h2; exact .inl ⟨h1.symm, h2.symm⟩
  | some c =>
    have hlt := (List.getElem?_eq_some_iff.1 hc).1
    rw [hc] at h
    simp only at h
    split at h
    · injection h with h; cases h
    · rename_i hne
      rcases sevL_tr hv ho he k _ _ _ _ g5 h with hl | ⟨k1, k2, k3, k4⟩
      · exact .inl hl
      · refine .inr ⟨k1, by omega, k3, ?_⟩
        show sevF (one (s.take p')) (s.take p') en k a p = _
        unfold sevF
        have z := blanks_agree (s := s) (p := p + 1) rfl (Ag.take s p' _ (by omega) k2)
        rw [z]
        by_cases hb : blanksF s (p + 1) < p'
        · rw [at_take hb, hc]
          simp only [if_neg hne]
          exact k4
        · rw [none_take k3 (by omega), len_take k3]
end
theorem omap_err {α β : Type} (f : α → β) {x : Option (Out α)} {e p : Nat} (h : x.map (Out.map f) = some (.err e p)) : x = some (.err e p) := by
  cases x with
  | none => cases h
  | some o => injection h with h; rw [map_err f o e p h]
theorem Cut.omap {α β : Type} (f : α → β) {s : List UInt8} {p e p' : Nat} {x : Option (Out α)} {y : List UInt8 → Option (Out α)} (hx : x.map (Out.map f) = some (.err e p')) (h : x = some (.err e p') → Cut s p e p' (fun t => y t = some (.err 3 p'))) : Cut s p e p' (fun t => (y t).map (Out.map f) = some (.err 3 p')) :=
  (h (omap_err f hx)).imp (Nat.le_refl _) fun t _ _ _ hg => by rw [hg]; rfl
theorem oneM_tr {s : List UInt8} {v : List UInt8 → Nat → Option (Out J)} (he : ∀ q e p', q ≤ s.length → v s q = some (.err e p') → Cut s q e p' (fun t => v t q = some (.err 3 p')))
    (k : Nat) (a : List ByteArray × List J) (q e p' : Nat) (h : oneM (v s) s k a q = some (.err e p')) : Cut s q e p' (fun t => oneM (v t) t k a q = some (.err 3 p')) := by
  unfold oneM at h
  cases hc : s[q]? with
  | none => rw [hc] at h; injection h with h; injection h with h1 h2; exact .inl ⟨h1.symm, h2.symm⟩
  | some c =>
    have hlt := (List.getElem?_eq_some_iff.1 hc).1
    have here : ∀ e, (e ≠ 3 ∧ e ≠ 0) → Cut s q e q (fun t => oneM (v t) t k a q = some (.err 3 q)) := fun e he =>
      .inr ⟨he, Nat.le_refl _, hlt, by dsimp only; unfold oneM; rw [none_take hlt (Nat.le_refl _), len_take hlt]⟩
    rw [hc] at h
    simp only at h
    split at h
    · rename_i h34
      have go : ∀ t : List UInt8, t[q]? = some c → ∀ o, (match textF t k [] (q + 1) with
          | none => none
          | some (.err e p) => some (.err e p)
          | some (.val nm q1) =>
            if nm ∈ a.1.map (fun b => b.data.toList) then some (.err 45 q)
            else match t[blanksF t q1]? with
              | none => some (.err 3 t.length)
              | some c =>
                if c = 58 then (v t (blanksF t (blanksF t q1 + 1))).map (Out.map fun x => (a.1 ++ [bsJ nm], a.2 ++ [x]))
                else some (.err 40 (blanksF t q1))) = o → oneM (v t) t k a q = o := by
        intro t ht o ho
        rw [← ho]
        unfold oneM
        rw [ht]
        simp only [if_pos h34]
        rfl
      cases ht : textF s k [] (q + 1) with
      | none => rw [ht] at h; cases h
      | some o1 =>
        rw [ht] at h
        cases o1 with
        | err e1 p1 =>
          simp only at h
          injection h with h; injection h with h1 h2
          subst h1; subst h2
          refine (textF_tr s _ _ _ _ _ ht).imp (by omega) fun t k1 k2 ht' hg => ?_
          refine go t (by rw [ht', at_take (by omega)]; exact hc) _ ?_
          rw [hg]
        | val nm q1 =>
          simp only at h
          have hv1 := textF_val _ _ _ _ _ _ ht
          have g3 := blanks_ge s q1
          split at h
          · injection h with h; injection h with h1 h2
            subst h1; subst h2
            exact here _ (by decide)
          · rename_i hm
            cases hc2 : s[blanksF s q1]? with
            | none => rw [hc2] at h; injection h with h; injection h with h1 h2; exact .inl ⟨h1.symm, h2.symm⟩
            | some c2 =>
              have hlt2 := (List.getElem?_eq_some_iff.1 hc2).1
              rw [hc2] at h
              simp only at h
              split at h
              · rename_i h58
                have g5 := blanks_le s (blanksF s q1 + 1) (by omega)
                have g6 := blanks_ge s (blanksF s q1 + 1)
                refine (Cut.omap _ (y := fun t => v t (blanksF s (blanksF s q1 + 1))) h (fun hh => he _ _ _ g5 hh)).imp (by omega) fun t k1 k2 ht' hg => ?_
                have hA : ∀ n, n ≤ p' → Ag s t n := fun n hn => ht' ▸ Ag.take s p' n (by omega) hn
                refine go t (by rw [ht', at_take (by omega)]; exact hc) _ ?_
                rw [textF_ag k _ _ _ _ ht (hA _ (by omega))]
                simp only [if_neg hm]
                rw [blanks_agree (s := s) (t := t) (p := q1) rfl (hA _ (by omega)), (hA (blanksF s q1 + 1) (by omega)).at_ _ (Nat.lt_succ_self _), hc2]
                simp only [if_pos h58]
                rw [blanks_agree (s := s) (t := t) (p := blanksF s q1 + 1) rfl (hA _ (by omega))]
                exact hg
              · injection h with h; injection h with h1 h2
                subst h1; subst h2
                refine .inr ⟨by decide, by omega, hlt2, ?_⟩
                have hA : ∀ n, n ≤ blanksF s q1 → Ag s (s.take (blanksF s q1)) n := fun n hn => Ag.take s _ n (by omega) hn
                refine go (s.take (blanksF s q1)) (by rw [at_take (by omega)]; exact hc) _ ?_
                rw [textF_ag k _ _ _ _ ht (hA _ (by omega))]
                simp only [if_neg hm]
                rw [blanks_agree (s := s) (p := q1) rfl (hA _ (by omega)), none_take hlt2 (Nat.le_refl _), len_take hlt2]
    · injection h with h; injection h with h1 h2
      subst h1; subst h2
      exact here _ (by decide)
theorem valueF_tr (s : List UInt8) (k : Nat) : ∀ (r p e p' : Nat), p ≤ s.length → valueF s k r p = some (.err e p') → Cut s p e p' (fun t => valueF t k r p = some (.err 3 p'))
  | r, p, e, p', hp, h => by
    cases hc : s[p]? with
    | none => unfold valueF at h; rw [hc] at h; injection h with h; injection h with h1 h2; exact .inl ⟨h1.symm, h2.symm⟩
    | some c =>
      have hlt := (List.getElem?_eq_some_iff.1 hc).1
      have here : ∀ e, (e ≠ 3 ∧ e ≠ 0) → Cut s p e p (fun t => valueF t k r p = some (.err 3 p)) := fun e he =>
        .inr ⟨he, Nat.le_refl _, hlt, by dsimp only; unfold valueF; rw [none_take hlt (Nat.le_refl _), len_take hlt]⟩
      by_cases hpp : p' = p ∧ (e ≠ 3 ∧ e ≠ 0)
      · rw [hpp.1]; exact here _ hpp.2
      · have lift : ∀ (G : List UInt8 → Prop), (∀ t, t[p]? = some c → G t → valueF t k r p = some (.err 3 p')) → Cut s p e p' G → Cut s p e p' (fun t => valueF t k r p = some (.err 3 p')) := fun G hG hcut => by
          refine Or.imp_right ?_ hcut
          rintro ⟨k1, k2, k3, k4⟩
          exact ⟨k1, k2, k3, hG _ (by rw [at_take (by have : p' ≠ p := fun hh => hpp ⟨hh, k1⟩; omega)]; exact hc) k4⟩
        unfold valueF at h
        rw [hc] at h
        simp only at h
        split at h
        · rename_i h1
          injection h with h
          refine lift _ (fun t ht hg => ?_) (wordF_tr s _ _ _ _ (map_err _ _ _ _ h))
          unfold valueF; rw [ht]; simp only [if_pos h1, hg]; rfl
        · rename_i h1; split at h
          · rename_i h2
            injection h with h
            refine lift _ (fun t ht hg => ?_) (wordF_tr s _ _ _ _ (map_err _ _ _ _ h))
            unfold valueF; rw [ht]; simp only [if_neg h1, if_pos h2, hg]; rfl
          · rename_i h2; split at h
            · rename_i h3
              injection h with h
              refine lift _ (fun t ht hg => ?_) (wordF_tr s _ _ _ _ (map_err _ _ _ _ h))
              unfold valueF; rw [ht]; simp only [if_neg h1, if_neg h2, if_pos h3, hg]; rfl
            · rename_i h3; split at h
              · rename_i h4
                injection h with h
                refine lift _ (fun t ht hg => ?_) (numberF_tr (map_err _ _ _ _ h))
                unfold valueF; rw [ht]; simp only [if_neg h1, if_neg h2, if_neg h3, if_pos h4, hg]; rfl
              · rename_i h4; split at h
                · rename_i h5
                  refine lift _ (fun t ht hg => ?_) ((textF_tr s _ _ _ _ _ (omap_err _ h)).imp (Nat.le_succ p) fun t _ _ _ hg => hg)
                  unfold valueF; rw [ht]; simp only [if_neg h1, if_neg h2, if_neg h3, if_neg h4, if_pos h5, hg]; rfl
                · rename_i h5; split at h
                  · rename_i h6
                    cases r with
                    | zero => injection h with h; injection h with ha hb; subst ha; subst hb; exact here _ (by decide)
                    | succ r =>
                      have hv1 := fun (q : Nat) (j : J) (q' : Nat) (hq : q ≤ s.length) (h : valueF s k r q = some (.val j q')) => valueF_val s k r q q' j hq h
                      simp only at h
                      split at h
                      · rename_i h7
                        refine lift _ (fun t ht hg => ?_) ((sevF_tr (one := fun t => oneI (valueF t k r)) (fun a q a' q' hq h => oneI_val s _ hv1 a q a' q' hq h) (fun t a q a' q' hq h ha => omap_ag _ (fun j hj => valueF_ag k r q _ j hq hj ha) h) (fun a q e p' hq h => Cut.omap _ h (fun hh => valueF_tr s k r q e p' hq hh)) k _ p e p' hlt (omap_err _ h)).imp (Nat.le_succ p) fun t _ _ _ hg => hg)
                        unfold valueF; rw [ht]; simp only [if_neg h1, if_neg h2, if_neg h3, if_neg h4, if_neg h5, if_pos h6, if_pos h7, hg]; rfl
                      · rename_i h7
                        refine lift _ (fun t ht hg => ?_) ((sevF_tr (one := fun t => oneM (valueF t k r) t k) (fun a q a' q' hq h => oneM_val s k _ hv1 a q a' q' hq h) (fun t a q a' q' hq h ha => oneM_ag hv1 (fun q j q' hq h ha => valueF_ag k r q q' j hq h ha) k a q a' q' hq h ha) (fun a q e p' hq h => oneM_tr (v := fun t => valueF t k r) (fun q e p' hq hh => valueF_tr s k r q e p' hq hh) k a q e p' h) k _ p e p' hlt (omap_err _ h)).imp (Nat.le_succ p) fun t _ _ _ hg => hg)
                        unfold valueF; rw [ht]; simp only [if_neg h1, if_neg h2, if_neg h3, if_neg h4, if_neg h5, if_pos h6, if_neg h7, hg]; rfl
                  · injection h with h; injection h with ha hb; subst ha; subst hb; exact here _ (by decide)
end Go.Proofs.YtaalajhmfdcalaaDoor.X
namespace Go.Proofs.YtaalajhmfdcalaaDoor.X
open Go.RowKit Go.Lib Go.Proofs.YtaalajhmfdcalaaDoorW.PrintWords
/-! A value that is fit: only its length may bar it. -/
def E1 (st : St) : Prop := st.e ≤ 1
theorem putF_e1 {free : Bool} {st : St} (s : List UInt8) (h : E1 st) : E1 (putF free st s) := by
  unfold putF
  repeat' split
  · exact h
  · exact Nat.le_refl _
  · exact Nat.zero_le _
theorem putsF_e1 {free : Bool} : ∀ (l : List (List UInt8)) {st : St}, E1 st → E1 (putsF free st l)
  | [], _, h => h
  | a :: l, st, h => by rw [putsF_cons]; exact putsF_e1 l (putF_e1 a h)
theorem comma_e1 {free : Bool} {st : St} (i : Nat) (h : E1 st) : E1 (if i = 0 then st else putF free st [44]) := by
  split
  · exact h
  · exact putF_e1 _ h
theorem itemsW_e1 {free : Bool} {one : J → St → St} {P : J → Prop} (ho : ∀ y st, P y → E1 st → E1 (one y st)) : ∀ (l : List J) (i : Nat) (st : St), (∀ y, y ∈ l → P y) → E1 st → E1 (itemsW free one i l st)
  | [], _, _, _, h => h
  | y :: l, i, st, hp, h => by
    rw [itemsW]
    exact itemsW_e1 ho l _ _ (fun z hz => hp z (List.mem_cons_of_mem _ hz)) (ho y _ (hp y (List.mem_cons_self ..)) (comma_e1 i h))
theorem membersW_e1 {free : Bool} {one : J → St → St} {P : J → Prop} (ho : ∀ y st, P y → E1 st → E1 (one y st)) : ∀ (ns : List ByteArray) (ys : List J) (seen : List ByteArray) (i : Nat) (st : St), (∀ y, y ∈ ys → P y) → (∀ s, s ∈ ns → validD s.data.toList = true) → ((seen ++ ns).map (fun b => b.data.toList)).Nodup → E1 st → E1 (membersW free one seen i ns ys st)
  | [], ys, _, _, _, _, _, _, h => by cases ys <;> (rw [membersW]; exact h; all_goals simp)
  | _ :: _, [], _, _, _, _, _, _, h => by rw [membersW]; exact h; all_goals simp
  | nm :: ns, y :: ys, seen, i, st, hp, hv, hn, h => by
    have h3 : ¬ nm.data.toList ∈ seen.map (fun b => b.data.toList) := by
      rw [List.map_append, List.nodup_append] at hn
      intro hm
      exact hn.2.2 _ hm _ (by simp) rfl
    rw [membersW]
    by_cases he : (if i = 0 then st else putF free st [44]).e ≠ 0
    · rw [if_pos he]; exact comma_e1 i h
    · rw [if_neg he, if_neg (by rw [hv nm (List.mem_cons_self ..)]; simp), if_neg h3]
      exact membersW_e1 ho ns ys _ _ _ (fun z hz => hp z (List.mem_cons_of_mem _ hz)) (fun z hz => hv z (List.mem_cons_of_mem _ hz)) (by simpa using hn) (ho y _ (hp y (List.mem_cons_self ..)) (putF_e1 _ (putsF_e1 _ (comma_e1 i h))))
theorem valW_e1 (free : Bool) : ∀ (r : Nat) (v : J) (st : St), OKJ r v → E1 st → E1 (valW free false r v st)
  | 0, v, st, hok, h => by
    obtain ⟨hn, h5, h6⟩ := hok
    by_cases he : st.e ≠ 0
    · rw [valW_bad _ _ _ _ _ he]; exact h
    · rw [valW, if_neg he, if_neg (by rintro (h | h); exact h5 h; exact h6 h), if_neg (by rw [hn]; simp)]
      repeat' split
      · exact putF_e1 _ h
      · exact putsF_e1 _ h
      · exact putF_e1 _ h
  | r + 1, v, st, hok, h => by
    obtain ⟨hn, hi, hm⟩ := hok
    have IH := fun y st => valW_e1 free r y st
    by_cases he : st.e ≠ 0
    · rw [valW_bad _ _ _ _ _ he]; exact h
    · rw [valW, if_neg he, if_neg (by rw [hn]; simp)]
      by_cases h5 : v.f0 = 5
      · rw [if_pos h5]
        exact putF_e1 _ (itemsW_e1 IH _ _ _ (hi (.inl h5)) (putF_e1 _ h))
      · rw [if_neg h5]
        by_cases h6 : v.f0 = 6
        · rw [if_pos h6]
          show E1 (putF free (membersW free (valW free false r) [] 0 v.f2 v.f3 _) _)
          exact putF_e1 _ (membersW_e1 IH _ _ _ _ _ (hi (.inr h6)) (hm h6).1 (by simpa using (hm h6).2) (putF_e1 _ h))
        · rw [if_neg h6]
          repeat' split
          · exact putF_e1 _ h
          · exact putsF_e1 _ h
          · exact putF_e1 _ h
theorem parse_fit {s : List UInt8} {k : Nat} {v : J} {q : Nat} (h : parseJ s k = some (.val v q)) : s.length ≤ 16384 ∧ OKJ 32 v ∧ Bd (2 * s.length) s.length v := by
  unfold parseJ at h
  split at h
  · injection h with h; cases h
  · rename_i hl
    split at h
    · cases h
    · injection h with h; cases h
    · rename_i v' q' hv
      split at h
      · injection h with h; cases h
      · injection h with h
        injection h with h _
        subst h
        exact ⟨by omega, valueF_fit s k 32 _ _ _ (blanks_le s 0 (Nat.zero_le _)) hv⟩
theorem parse_err_pos {s : List UInt8} {k e p' : Nat} (h : parseJ s k = some (.err e p')) : 0 < e := by
  unfold parseJ at h
  split at h
  · injection h with h; injection h with h1 _; omega
  · cases hv : valueF s k 32 (blanksF s 0) with
    | none => rw [hv] at h; cases h
    | some o1 =>
      rw [hv] at h
      cases o1 with
      | err e1 p1 =>
        simp only at h
        injection h with h; injection h with h1 _
        rcases valueF_tr s k 32 _ _ _ (blanks_le s 0 (Nat.zero_le _)) hv with ⟨h2, _⟩ | ⟨h2, _⟩ <;> omega
      | val v q =>
        simp only at h
        split at h
        · injection h with h; injection h with h1 _; omega
        · injection h with h; cases h
theorem form_law (a0 : ByteArray) : ∃ k, wicketlaw04_JtextForm.f k a0 = some true := by
  obtain ⟨o, ho⟩ := parseJ_total a0.data.toList (k := a0.size + 1) (by rw [size_data]; omega)
  cases o with
  | err e p =>
    refine ⟨0, ?_⟩
    have hp : jtext_Parse.f a0 = some (0, ⟨#[]⟩, [], [], (e : Int), (p : Int)) := by unfold jtext_Parse.f; rw [ho]
    have he : ¬ ((e : Int) = 0) := by
      have := parse_err_pos ho
      omega
    unfold wicketlaw04_JtextForm.f
    rw [hp]
    simp only [Option.bind_some, wicketlaw04_num.f]
    rw [if_neg he, live_true]
    rfl
  | val v q =>
    obtain ⟨hs, hok, hbd⟩ := parse_fit ho
    have hp : jtext_Parse.f a0 = some (v.f0, v.f1, v.f2, v.f3, 0, 0) := parse_f_val ho
    have pf := print_f_ok (B := 2 * a0.data.toList.length) (by omega) hbd
    obtain ⟨K, hK⟩ := equal_self (L := a0.data.toList.length) (by omega) hbd
    refine ⟨K, ?_⟩
    unfold wicketlaw04_JtextForm.f
    rw [hp]
    simp only [Option.bind_some, wicketlaw04_num.f, if_true]
    rw [pf]
    simp only [Option.bind_some]
    by_cases he : (printS v).e = 0
    · have hf := fits_of he
      rw [if_pos (by omega), hf.parse]
      simp only [Option.bind_some]
      rw [pf]
      simp only [Option.bind_some, live_true, if_true]
      rw [hK K (Nat.le_refl _)]
      simp only [Option.bind_some, if_true]
      rw [if_pos (by omega), hf.same hf, decide_eq_true rfl]
      rfl
    · have h1 : (printS v).e ≤ 1 := valW_e1 false 32 v ⟨[], 0⟩ hok (Nat.zero_le _)
      rw [if_neg (by omega), live_true]
      simp only [Option.bind_some, if_true]
      rw [show (printS v).e = 1 by omega]
      rfl
end Go.Proofs.YtaalajhmfdcalaaDoor.X
namespace Go.Proofs.YtaalajhmfdcalaaDoor.X
open Go.RowKit Go.Lib Go.Proofs.YtaalajhmfdcalaaDoorW.PrintWords
theorem form_walk (a : ByteArray) (W : World) (hG : GL W) :
    Calls Tryd.prog 8 #[.string a] W fun e w' => e = .returned (.bool true) ∧ Below W.heap.size W w' := by
  obtain ⟨k, hk⟩ := form_law a
  exact wicketlaw04_JtextForm.calls k a true W hG hk
end Go.Proofs.YtaalajhmfdcalaaDoor.X
namespace Go.Proofs.YtaalajhmfdcalaaDoor.jtextForm
open Go.ChangeShapes Go.WideShapes Go.ChangeAt Go.RowKit
open Go.ChangeMaps (open_string shut_string)
theorem own : ownKnob Tryd.prog.godebug = none := by kernel_rfl
theorem laidOut : laidOutB Tryd.prog = true := by kernel_rfl
set_option maxRecDepth 100000 in
theorem contract (H : Type) (enc : TypeId × Value → H) (W : World) (base : Nat) (args : Array Value) (ds gs : List (DataW H)) (before : List MemPlace)
    (hval0 : ∀ (j : Nat) t v, Tryd.f8.params[j]? = some t → args[j]? = some v → Value.okWide Tryd.prog W .any base t v)
    (hW : DataW.Whole enc Tryd.prog Tryd.f8.params.toList Rows.jtextFormSpec.vars false W args.toList ds gs before)
    (hsz0 : (DataW.weightsEach Tryd.prog (Tryd.f8.params.toList ++ Rows.jtextFormSpec.plain.varTypes Tryd.prog) (ds ++ gs)).all (· ≤ reachBytes) = true) (hG : X.GL W) :
    Calls Tryd.prog 8 args W fun e W' => ∃ v, e = .returned v ∧ Rows.jtextFormSpec.post enc Tryd.prog Tryd.f8 false true false false W args v W' := by
  have hval := hval0
  have hsz := hsz0
  have hW' := hW
  obtain ⟨p, q, hA0, hV, rfl, hfz, hnd⟩ := hW
  have hA : DataW.TrodAll enc Tryd.prog W 0 (fun _ => true) true Tryd.f8.params.toList args.toList ds p := hA0
  rw [Tryd.params8] at hA hval hsz
  obtain ⟨v0, vs0, d0, ds0, p0, q0, hargs, rfl, rfl, h0, r0⟩ := trodAll_cons hA
  obtain ⟨rfl, rfl, rfl⟩ := trodAll_nil r0
  obtain rfl : args = #[v0] := by cases args; simp_all
  obtain ⟨rfl, rfl⟩ := trodVars_none hV
  obtain ⟨a0, rfl, rfl, rfl, y0⟩ := open_string Tryd.underlying9 (hval 0 9 v0 rfl rfl) h0
  have w0 : a0.size ≤ 140737488351232 := by
    have z := sized_string hsz (j := 0) (t := 9) rfl rfl
    rw [Array.length_toList] at z
    exact z
  clear hA0 hval0 hsz0 hsz
  refine (X.form_walk a0 W hG).mono fun e W' ⟨he, bel⟩ => ?_
  subst he
  exact ⟨_, rfl, _, _, _, [], _, [], hW', trodAll_mk1 (shut_bool Tryd.underlying4 _), (trodAll_cons_mk (shut_string Tryd.underlying9 y0) trodAll_mk0), rfl, bel.frame _, fun h => by cases h⟩
theorem lay_met (os : Os) : laidMetH Tryd.prog Rows.jtextFormRow.laid ((World.laidAll Tryd.prog os Rows.jtextFormRow.laid).forCall (fun _ _ => 0) ⟨#[], #[.string ⟨#[]⟩], []⟩).memory := by
  rw [MakeChecks.laidMetH_plain _ _ _ (by kernel_rfl)]
  exact laidMet_laidAll _ (by kernel_rfl) (by kernel_rfl)
theorem reads (os : Os) {H : Type} (enc : TypeId × Value → H) : ∃ places, DataW.whole enc Tryd.prog ((World.laidAll Tryd.prog os Rows.jtextFormRow.laid).forCall (fun _ _ => 0) ⟨#[], #[.string ⟨#[]⟩], []⟩).memory Tryd.f8.params.toList Rows.jtextFormSpec.vars false (#[.string ⟨#[]⟩] : Array Value).toList 8 = some ([.lit (.string [])], [], places) := ⟨[], by kernel_rfl⟩
set_option maxRecDepth 100000 in
theorem lifted (os : Os) (started : os.Started) (H : Type) (enc : TypeId × Value → H) (F : Stop.Interp) :
    ReturnsInHanded {} Tryd.checked os 8 .any ((OpenSpec.ofChange Rows.jtextFormSpec).preRow enc Tryd.prog Tryd.f8 Rows.jtextFormRow.domain false Rows.jtextFormRow.laid) (((OpenSpec.ofChange Rows.jtextFormSpec).at F).post enc Tryd.prog Tryd.f8 false true false false) := by
  obtain ⟨places, hx⟩ := reads os enc
  refine returnsInHanded_of_row (C := Tryd.checked) (s := OpenSpec.ofChange Rows.jtextFormSpec) own started (by kernel_rfl) Tryd.func8
    (witness_row_atRef (enc := enc) (C := Tryd.checked) false (World.laidAll Tryd.prog os Rows.jtextFormRow.laid) #[.string ⟨#[]⟩] (World.laidAll_os _ _ _) (by kernel_rfl) (by kernel_rfl) (by kernel_rfl)
      (OpenSpec.preRow_of_cond 8 hx (by kernel_rfl) (fun k hk => by cases hk) (by kernel_rfl) (lay_met os))) ?_
  intro W base args ds gs before hval hW _ _ hsz hL hS _
  exact contract H enc W base args ds gs before hval hW hsz (X.GL_of hL)
theorem said : Rows.JtextFormSaid :=
  OpenClaim.holds_of_cond 8 Tryd.f8 rfl rfl rfl rfl rfl rfl rfl ⟨rfl, rfl, rfl, rfl, rfl⟩ rfl rfl rfl rfl rfl (by kernel_rfl) Tryd.func8 (by kernel_rfl)
    (of_decide_eq_true (by kernel_rfl)) (by unfold Func.isWrapper; first | (rw [if_pos (by decide +kernel)]; kernel_rfl) | (rw [if_neg (by decide +kernel)]; exact ⟨rfl, rfl⟩))
    (fun os started H enc _ F => by rw [OpenClaim.pre_eq_preRow]; exact lifted os started H enc F)
theorem plain (f : FuncId) (fn : Func) (hf : Tryd.pinned.checked.prog.funcNamed "wicket/wicketlaw04.JtextForm" = some f) (hfn : Tryd.pinned.checked.prog.funcs[f]? = some fn) :
    true = Tryd.pinned.checked.prog.looks [] ∧ ∀ (j : Nat) t, fn.params[j]? = some t → Tryd.pinned.checked.prog.wantsStandIn t = false := by
  obtain rfl : f = 8 := Option.some.inj ((show Tryd.prog.funcNamed "wicket/wicketlaw04.JtextForm" = some 8 by kernel_rfl).symm.trans hf) |>.symm
  obtain rfl : fn = Tryd.f8 := (Option.some.inj (Tryd.func8.symm.trans hfn)).symm
  refine ⟨by kernel_rfl, fun j t ht => ?_⟩
  rw [Tryd.params8] at ht
  have hm := Array.mem_of_getElem? ht
  simp only [List.mem_toArray, List.mem_cons, List.not_mem_nil, or_false] at hm
  subst hm
  exact (show Tryd.prog.wantsStandIn 9 = false by kernel_rfl)
theorem card : Rows.JtextFormCardSaid :=
  Claim7.holds_tied_plain_at .later [] _ _ _ _ said (fun _ h => by cases h) (by kernel_rfl) (fun _ h => by cases h) jtextForm_row_tie rfl ⟨rfl, rfl⟩ (by kernel_rfl) rfl plain (by kernel_rfl)
#print axioms card
end Go.Proofs.YtaalajhmfdcalaaDoor.jtextForm
