/- The base of the laws that print in order. -/
import Derived.Test.YtaalajhmfdcalaaDoorBc2
import Derived.Test.YtaalajhmfdcalaaDoorBc0
import Derived.Test.YtaalajhmfdcalaaDoorBc1
import Derived.Lib.SmallJoins
import Derived.Deep.SlicePairs
import Derived.SizedLaws
import Derived.ProofKit
import Derived.Test.YtaalajhmfdcalaaDoorCards
import Derived.Test.YtaalajhmfdcalaaDoorTie
import Derived.Lay
import Derived.MakeChecks
import Derived.Stop.LaidErr
import Derived.ShapedOpen
import Derived.Shelf.Vars
import Derived.Lib.LaidTab
import Derived.Lib.LaidU8T
import Derived.Test.YtaalajhmfdcalaaDoorWb
set_option linter.unusedVariables false
set_option linter.unusedSimpArgs false
namespace Go.Proofs.YtaalajhmfdcalaaDoor.X
open Go.RowKit Go.Lib Go.Shelf Go.Proofs.YtaalajhmfdcalaaDoorW.PrintWords Go.Proofs.YtaalajhmfdcalaaDoorW.PrintLast Go.Proofs.YtaalajhmfdcalaaDoorW.PrintMore
noncomputable def siT : TypeInfo := (Tryd.prog.info? 107).get (by kernel_rfl)
noncomputable def siE : TypeInfo := (Tryd.prog.info? 3).get (by kernel_rfl)
theorem siK (n : Nat) (h2 : 2 ≤ n) : Lib.swapperK n siE 2 = 5 := by
  have a : siE.hasPointers = false := by kernel_rfl
  have b : siE.bytes = 8 := by kernel_rfl
  have c : (n == 0) = false := by simp; omega
  have d : (n == 1) = false := by simp; omega
  simp [Lib.swapperK, a, b, c, d]
theorem bytesLess_ltStr : ∀ x y : List UInt8, Op.bytesLess x y = Go.Sort.ltStr x y
  | _, [] => by simp [Op.bytesLess, Go.Sort.ltStr]
  | [], _ :: _ => by simp [Op.bytesLess, Go.Sort.ltStr]
  | a :: x, b :: y => by
    have ih := bytesLess_ltStr x y
    unfold Go.Sort.ltStr at ih ⊢
    rw [Op.bytesLess, ih, Bool.eq_iff_iff]
    simp [List.cons_lt_cons_iff]
theorem ext_self {α : Type} (A : Array α) (m : Nat) (h : A.size = m) : A.extract 0 m = A := by
  subst h; simp
def ltN (ns : List ByteArray) (a b : Nat) : Bool := Op.bytesLess (nmAt ns a).toList (nmAt ns b).toList
theorem swo_fin (ns : List ByteArray) (n : Nat) : Go.Sort.SWO (fun a b : Fin n => ltN ns a.val b.val) := by
  have key : ∀ a b, ltN ns a b = Go.Sort.ltStr (nmAt ns a).toList (nmAt ns b).toList := fun a b => bytesLess_ltStr _ _
  refine ⟨fun x => ?_, fun x y z h1 h2 => ?_, fun x y z h1 h2 => ?_⟩
  · simp only [key]; exact Go.Sort.swo_ltStr.irrefl _
  · simp only [key] at *; exact Go.Sort.swo_ltStr.trans _ _ _ h1 h2
  · simp only [key] at *; exact Go.Sort.swo_ltStr.ntrans _ _ _ h1 h2
/-- What the sort leaves: the row blk holds the places in another order. -/
structure SortEnds (blk n : Nat) (ns : List ByteArray) (w w' : World) (l : List Nat) : Prop where
  perm : l.Perm (List.range n)
  ord : ∀ i j, i < j → j < n → ltN ns (l.getD j 0) (l.getD i 0) = false
  cells : ∀ k, k < n → w'.cell? ⟨blk, k, none⟩ = some (.int .i64 ((l.getD k 0 : Nat) : Int))
  row : ∃ C, w'.heap[blk]? = some (.cells C 3 (0, 0))
  keep : KeepBut w w' blk none
  os : w'.os = w.os
  tape : w'.tape = w.tape
  output : w'.output = w.output
theorem range_getD (n k : Nat) (h : k < n) : (List.range n).getD k 0 = k := by
  rw [List.getD_eq_getElem?_getD, List.getElem?_range h]; rfl
set_option maxHeartbeats 2000000 in
theorem sort_calls (Bo Ba blk n c2 c3 : Nat) (ad : Addr) (A2 A3 : Option Addr) (n3 : Nat) (ns : List ByteArray) (w : World) (hn : ns.length = n) (hsz : n ≤ 1000000) (hA : 0 < n → A2 = some ad)
    (ho : w.heap[Bo]? = some (.cells #[.slice A2 n c2, .slice A3 n3 c3] 84 (0, 0))) (ha : w.heap[Ba]? = some (.cells #[.slice (some ⟨blk, 0, none⟩) n n] 107 (0, 0)))
    (hb : w.heap[blk]? = some (.cells ((List.range n).map fun k : Nat => Value.int .i64 (k : Int)).toArray 3 (0, 0))) (hob : Bo ≠ blk) (hab : Ba ≠ blk)
    (hnm : ∀ k, k < n → w.cell? (ad.add k) = some (.string (nmAt ns k))) (had : 0 < n → ad.block ≠ blk) :
    Calls Tryd.prog 77 #[.iface 107 (.slice (some ⟨blk, 0, none⟩) n n), .func (.func 78) #[] #[.pointer (some ⟨Bo, 0, none⟩), .pointer (some ⟨Ba, 0, none⟩)]] w fun e w' => e = .returned (.tuple #[]) ∧ ∃ l, SortEnds blk n ns w w' l := by
  have hblk := lt_of_block hb
  by_cases h2 : 2 ≤ n
  · haveI : Inhabited (Fin n) := ⟨⟨0, by omega⟩⟩
    obtain rfl := hA (by omega)
    have had' := had (by omega)
    have hd : (Array.ofFn (fun i : Fin n => i)).size = n := by simp
    have hget : ∀ k (hk : k < n), (Array.ofFn (fun i : Fin n => i))[k]! = ⟨k, hk⟩ := fun k hk => by
      rw [getElem!_pos _ k (by simpa using hk)]; simp
    have hH : Go.Sort.Holds (fun x : Fin n => Value.int .i64 (x.val : Int)) w blk 0 (Array.ofFn (fun i : Fin n => i)) := by
      intro j hj
      have hj' : j < n := by simpa using hj
      rw [hget j hj', Nat.zero_add]
      refine ⟨(blk_cell hb j).trans ?_, blk_frozen hb j⟩
      simp [hj']
    have hless : LessReads Tryd.prog 78 #[.pointer (some ⟨Bo, 0, none⟩), .pointer (some ⟨Ba, 0, none⟩)] (fun x : Fin n => Value.int .i64 (x.val : Int)) (fun a b : Fin n => ltN ns a.val b.val) blk 0 (Array.ofFn (fun i : Fin n => i)).size w := by
      intro m os dk hs i j hi hj
      rw [hd] at hi hj hs
      have e : sortWorld (fun x : Fin n => Value.int .i64 (x.val : Int)) w blk 0 m dk os = Go.Sort.putRow (fun x : Fin n => Value.int .i64 (x.val : Int)) (Go.Sort.grow (Go.Sort.ahead w m) os) blk 0 dk := by
        unfold sortWorld; rw [Go.Sort.putRow_grow _ (Go.Sort.ahead w m) _ blk 0 _ hblk]
      have other : ∀ a : Addr, a.block < w.heap.size → a.block ≠ blk → (sortWorld (fun x : Fin n => Value.int .i64 (x.val : Int)) w blk 0 m dk os).cell? a = w.cell? a := fun a h1 h3 => by
        rw [e, Go.Sort.cell?_putRow_other _ _ blk 0 dk _ (Or.inl h3), Go.Sort.cell?_grow _ _ _ (by exact h1)]
        rfl
      have hHg : Go.Sort.Holds (fun x : Fin n => Value.int .i64 (x.val : Int)) (Go.Sort.grow (Go.Sort.ahead w m) os) blk 0 (Array.ofFn (fun i : Fin n => i)) := Go.Sort.holds_grow _ _ _ blk 0 _ hblk (Go.Sort.holds_ahead _ _ _ _ _ _ hH)
      have key := less_calls Bo Ba blk n n c2 c3 n3 ad A3 ns (fun k => (dk[k]!).val) (sortWorld (fun x : Fin n => Value.int .i64 (x.val : Int)) w blk 0 m dk os) i j hi hj hn (fun k hk => (dk[k]!).isLt) ?_ ?_ (fun k hk => ?_) (fun k hk => ?_)
      · exact key
      · rw [other _ (lt_of_block ho) hob]; exact (blk_cell ho 0).trans rfl
      · rw [other _ (lt_of_block ha) hab]; exact (blk_cell ha 0).trans rfl
      · rw [e]; exact Go.Sort.cell?_putRow _ _ blk 0 _ dk hHg (by rw [hd]; exact hs) k (by omega)
      · have h4 := hnm k hk
        have h5 := World.block_lt_of_cell? w _ h4
        rw [add_block] at h5
        rw [other _ (by rw [add_block]; exact h5) (by rw [add_block]; exact had')]
        exact h4
    have hS := Any.sort_Slice_sorted Tryd.sl6 107 3 siT siE (by kernel_rfl) (by kernel_rfl) (by kernel_rfl) (by kernel_rfl) 2 (fun _ => by kernel_rfl) (by kernel_rfl) (fun _ => by kernel_rfl) (fun x : Fin n => Value.int .i64 (x.val : Int)) (fun _ => rfl) _ (swo_fin ns n) 78 _
      (enters_of Tryd.func78 (by kernel_rfl) rfl) blk 0 n (Array.ofFn (fun i : Fin n => i)) (by rw [hd]; exact h2) (by rw [hd]; omega) 101 (by rw [hd, siK _ h2]; kernel_rfl) true
      (fun args W => run_callFunc_extern Tryd.func101 (by kernel_rfl) (by kernel_rfl) (by kernel_rfl) (e := Extern.ReflectliteSwapper.swap true) (by kernel_rfl) args W) w hless hH hblk
    rw [hd] at hS
    refine Calls.mono hS ?_
    rintro e w' ⟨rfl, d', m, os, hP, hSo, rfl⟩
    obtain ⟨hp1, _, hp3⟩ := hP
    rw [hd] at hp1
    have hl : d'.toList.length = n := by simpa using hp1
    have hgd : ∀ k, k < n → (d'.toList.map Fin.val).getD k 0 = (d'[k]!).val := fun k hk => by
      rw [List.getD_eq_getElem?_getD, List.getElem?_map, Array.getElem?_toList, Array.getElem?_eq_getElem (by omega), getElem!_pos d' k (by omega)]
      rfl
    have eW : Go.Sort.grow (Go.Sort.putRow (fun x : Fin n => Value.int .i64 (x.val : Int)) (Go.Sort.ahead w m) blk 0 d') os = sortWorld (fun x : Fin n => Value.int .i64 (x.val : Int)) w blk 0 m d' os := rfl
    refine ⟨rfl, d'.toList.map Fin.val, ⟨?_, fun i j hij hj => ?_, fun k hk => ?_, ?_, ⟨?_, fun i hi hne _ => ?_⟩, rfl, rfl, rfl⟩⟩
    · have h3 : d'.toList.Perm (Array.ofFn (fun i : Fin n => i)).toList := by
        have e1 : d'.extract 0 n = d' := ext_self _ _ hp1
        have e2 : (Array.ofFn (fun i : Fin n => i)).extract 0 n = Array.ofFn (fun i : Fin n => i) := ext_self _ _ hd
        rw [e1, e2] at hp3
        exact hp3
      have h4 := h3.map Fin.val
      refine h4.trans (List.Perm.of_eq ?_)
      apply List.ext_getElem
      · simp
      · intro i h1 h2
        simp
    · rw [hgd j hj, hgd i (by omega)]
      exact hSo i j (Nat.zero_le _) hij hj
    · rw [hgd k hk, eW]
      have e : sortWorld (fun x : Fin n => Value.int .i64 (x.val : Int)) w blk 0 m d' os = Go.Sort.putRow (fun x : Fin n => Value.int .i64 (x.val : Int)) (Go.Sort.grow (Go.Sort.ahead w m) os) blk 0 d' := by
        unfold sortWorld; rw [Go.Sort.putRow_grow _ (Go.Sort.ahead w m) _ blk 0 _ hblk]
      rw [e]
      have := Go.Sort.cell?_putRow (fun x : Fin n => Value.int .i64 (x.val : Int)) (Go.Sort.grow (Go.Sort.ahead w m) os) blk 0 _ d' (Go.Sort.holds_grow _ _ _ blk 0 _ hblk (Go.Sort.holds_ahead _ _ _ _ _ _ hH)) (by rw [hd]; exact hp1) k (by omega)
      rw [Nat.zero_add] at this
      exact this
    · rw [Go.Sort.heap_grow_old _ _ (by simpa [Go.Sort.putRow, Go.Sort.mapBlock] using hblk)]
      refine ⟨_, (show _ = (w.heap[blk]?).map (Go.Sort.onCells (Go.Sort.putCells (fun x : Fin n => Value.int .i64 (x.val : Int)) 0 d')) from ?_).trans (by rw [hb]; rfl)⟩
      simp [Go.Sort.putRow, Go.Sort.mapBlock, Go.Sort.ahead, Array.getElem?_modify]
    · simp [Go.Sort.grow, Go.Sort.putRow, Go.Sort.mapBlock]
    · rw [Go.Sort.heap_grow_old _ _ (by simpa [Go.Sort.putRow, Go.Sort.mapBlock] using hi)]
      simp [Go.Sort.putRow, Go.Sort.mapBlock, Array.getElem?_modify, Ne.symm hne]
  · have hS := Any.sort_Slice_tiny Tryd.sl6 107 3 siT siE (by kernel_rfl) (by kernel_rfl) (by kernel_rfl) (by kernel_rfl) 2 (fun _ => by kernel_rfl) (some ⟨blk, 0, none⟩) n n (by omega) (if n = 0 then 97 else 98)
      (by
        rcases (by omega : n = 0 ∨ n = 1) with h | h
        · subst h; rw [if_pos rfl]; kernel_rfl
        · subst h; rw [if_neg (by decide)]; kernel_rfl) (.func 78) #[] #[.pointer (some ⟨Bo, 0, none⟩), .pointer (some ⟨Ba, 0, none⟩)] w
    refine Calls.mono hS ?_
    rintro e w' ⟨rfl, os, rfl⟩
    refine ⟨rfl, List.range n, ⟨.refl _, fun i j hij hj => by omega, fun k hk => ?_, ⟨_, (Go.Sort.heap_grow_old w os hblk).trans hb⟩, ⟨by simp [Go.Sort.grow], fun i hi _ _ => Go.Sort.heap_grow_old w os hi⟩, rfl, rfl, rfl⟩⟩
    rw [Go.Sort.cell?_grow _ _ _ hblk, range_getD n k hk, blk_cell hb k]
    simp [hk]
end Go.Proofs.YtaalajhmfdcalaaDoor.X
namespace Go.Proofs.YtaalajhmfdcalaaDoor.X
open Go.RowKit Go.Lib Go.Proofs.YtaalajhmfdcalaaDoorW.PrintWords Go.Proofs.YtaalajhmfdcalaaDoorW.PrintLast Go.Proofs.YtaalajhmfdcalaaDoorW.PrintMore
theorem strict_unique {α : Type} (lt : α → α → Prop) (asymm : ∀ a b, lt a b → ¬ lt b a) : ∀ l1 l2 : List α, l1.Perm l2 → l1.Pairwise lt → l2.Pairwise lt → l1 = l2
  | [], l2, h, _, _ => (List.nil_perm.1 h).symm ▸ rfl
  | a :: l1, [], h, _, _ => absurd h.length_eq (by simp)
  | a :: l1, b :: l2, h, h1, h2 => by
    have ha : a ∈ b :: l2 := h.subset (List.mem_cons_self ..)
    have hb : b ∈ a :: l1 := h.symm.subset (List.mem_cons_self ..)
    rw [List.pairwise_cons] at h1 h2
    rcases List.mem_cons.1 ha with e | ha
    · subst e
      rw [strict_unique lt asymm l1 l2 (List.Perm.cons_inv h) h1.2 h2.2]
    · rcases List.mem_cons.1 hb with e | hb
      · subst e
        rw [strict_unique lt asymm l1 l2 (List.Perm.cons_inv h) h1.2 h2.2]
      · exact absurd (h1.1 b hb) (asymm _ _ (h2.1 a ha))
theorem list_eq {a b : ByteArray} (h : a.toList = b.toList) : a = b := by
  rw [toList_data, toList_data] at h
  obtain ⟨⟨a⟩⟩ := a
  obtain ⟨⟨b⟩⟩ := b
  exact congrArg (fun l : List UInt8 => (⟨⟨l⟩⟩ : ByteArray)) h
def leP (a b : ByteArray × J) : Prop := Op.bytesLess b.1.toList a.1.toList = false
def ltP (a b : ByteArray × J) : Prop := Op.bytesLess a.1.toList b.1.toList = true
theorem ltP_asymm (a b : ByteArray × J) (h : ltP a b) : ¬ ltP b a := by
  unfold ltP at *
  simp only [bytesLess_ltStr] at *
  have := Go.Sort.swo_ltStr.irrefl a.1.toList
  intro h2
  rw [Go.Sort.swo_ltStr.trans _ _ _ h h2] at this
  cases this
theorem leP_of_ltP {a b : ByteArray × J} (h : ltP a b) : leP a b := by
  have := ltP_asymm a b h
  unfold ltP at this
  unfold leP
  cases h2 : Op.bytesLess b.1.toList a.1.toList with
  | false => rfl
  | true => exact absurd h2 this
theorem ltP_of {a b : ByteArray × J} (h : leP a b) (hne : a.1 ≠ b.1) : ltP a b := by
  unfold leP at h
  unfold ltP
  rw [bytesLess_ltStr] at *
  simp only [Go.Sort.ltStr, decide_eq_false_iff_not, decide_eq_true_eq, List.not_lt] at *
  rcases Classical.em (a.1.toList < b.1.toList) with h1 | h1
  · exact h1
  · rw [List.not_lt] at h1
    exact absurd (list_eq (List.le_antisymm h h1)) hne
theorem insF_sorted (x : ByteArray × J) : ∀ l, l.Pairwise leP → (insF x l).Pairwise leP
  | [], _ => by unfold insF; exact List.pairwise_singleton _ _
  | y :: l, h => by
    rw [List.pairwise_cons] at h
    unfold insF
    split
    · rename_i hy
      rw [List.pairwise_cons]
      refine ⟨fun z hz => ?_, insF_sorted x l h.2⟩
      rcases List.mem_cons.1 ((insF_perm x l).subset hz) with e | hz
      · subst e; exact leP_of_ltP hy
      · exact h.1 z hz
    · rename_i hy
      have hxy : leP x y := by
        unfold leP
        cases h2 : Op.bytesLess y.1.toList x.1.toList with
        | false => rfl
        | true => exact absurd h2 hy
      rw [List.pairwise_cons, List.pairwise_cons]
      refine ⟨fun z hz => ?_, h⟩
      rcases List.mem_cons.1 hz with e | hz
      · subst e; exact hxy
      · have h3 := h.1 z hz
        unfold leP at *
        simp only [bytesLess_ltStr] at *
        exact Go.Sort.swo_ltStr.ntrans _ _ _ h3 hxy
theorem sortF_sorted' : ∀ (l a : List (ByteArray × J)), a.Pairwise leP → (l.foldl (fun a x => insF x a) a).Pairwise leP
  | [], _, h => h
  | x :: l, a, h => sortF_sorted' l _ (insF_sorted x a h)
theorem sortF_sorted (l : List (ByteArray × J)) : (sortF l).Pairwise leP := sortF_sorted' l [] .nil
theorem strict_of {l : List (ByteArray × J)} (h : l.Pairwise leP) (hn : (l.map Prod.fst).Nodup) : l.Pairwise ltP := by
  have h2 : l.Pairwise (fun a b => a.1 ≠ b.1) := List.pairwise_map.1 hn
  exact List.Pairwise.imp (fun ⟨h3, h4⟩ => ltP_of h3 h4) (List.pairwise_and_iff.2 ⟨h, h2⟩)
theorem range_pairs {ns : List ByteArray} {ys : List J} (h : ns.length = ys.length) : (List.range ns.length).map (fun k : Nat => (nmAt ns k, rd_T25 ys (k : Int))) = ns.zip ys := by
  apply List.ext_getElem
  · simp [h]
  · intro i h1 h2
    have hi : i < ns.length := by simpa using h1
    rw [List.getElem_map, List.getElem_range, List.getElem_zip, nmAt_eq ns i hi]
    unfold rd_T25
    rw [show ((i : Int)).toNat = i from Int.toNat_natCast i, List.getD_eq_getElem?_getD, List.getElem?_eq_getElem (by omega)]
    rfl
theorem sorted_lists {ns : List ByteArray} {ys : List J} {l : List Nat} (h : ns.length = ys.length) (hP : l.Perm (List.range ns.length)) (hO : ∀ i j, i < j → j < ns.length → ltN ns (l.getD j 0) (l.getD i 0) = false) :
    ((l.map fun k : Nat => nmAt ns k).zip (l.map fun k : Nat => rd_T25 ys (k : Int))).Perm (ns.zip ys) ∧ (ns.Nodup → (l.map fun k : Nat => nmAt ns k) = namesOf true ns ys ∧ (l.map fun k : Nat => rd_T25 ys (k : Int)) = itemsOf true ns ys) := by
  have e : (l.map fun k : Nat => nmAt ns k).zip (l.map fun k : Nat => rd_T25 ys (k : Int)) = l.map (fun k : Nat => (nmAt ns k, rd_T25 ys (k : Int))) := List.zip_map'
  have hp : (l.map (fun k : Nat => (nmAt ns k, rd_T25 ys (k : Int)))).Perm (ns.zip ys) := by
    rw [← range_pairs h]; exact hP.map _
  have hlen : l.length = ns.length := by rw [hP.length_eq, List.length_range]
  rw [e]
  refine ⟨hp, fun hn => ?_⟩
  have hs : (l.map (fun k : Nat => (nmAt ns k, rd_T25 ys (k : Int)))).Pairwise leP := by
    rw [List.pairwise_map, List.pairwise_iff_getElem]
    intro i j hi hj hij
    have := hO i j hij (by omega)
    have gi : l.getD i 0 = l[i] := by rw [List.getD_eq_getElem?_getD, List.getElem?_eq_getElem hi]; rfl
    have gj : l.getD j 0 = l[j] := by rw [List.getD_eq_getElem?_getD, List.getElem?_eq_getElem hj]; rfl
    rw [gi, gj] at this
    exact this
  have hz : ((ns.zip ys).map Prod.fst).Nodup := by rw [map_fst_zip h]; exact hn
  have eq := strict_unique ltP ltP_asymm _ _ (hp.trans (sortF_perm (ns.zip ys)).symm) (strict_of hs (((hp.map Prod.fst).nodup_iff).2 hz)) (strict_of (sortF_sorted _) ((((sortF_perm (ns.zip ys)).map Prod.fst).nodup_iff).2 hz))
  constructor
  · have := congrArg (List.map Prod.fst) eq
    rw [List.map_map] at this
    exact this
  · have := congrArg (List.map Prod.snd) eq
    rw [List.map_map] at this
    exact this
end Go.Proofs.YtaalajhmfdcalaaDoor.X
namespace Go.Proofs.YtaalajhmfdcalaaDoor.X
open Go.RowKit Go.Lib Go.Proofs.YtaalajhmfdcalaaDoorW.PrintWords
/-- The members in order, all the way down. -/
def sJ : Nat → J → J
  | 0, v => v
  | r + 1, v =>
    if v.f0 = 5 then ⟨v.f0, v.f1, v.f2, v.f3.map (sJ r)⟩
    else if v.f0 = 6 ∧ v.f2.length = v.f3.length then ⟨v.f0, v.f1, namesOf true v.f2 v.f3, (itemsOf true v.f2 v.f3).map (sJ r)⟩
    else v
theorem itemsW_map {free : Bool} {one one' : J → St → St} {f : J → J} (h : ∀ y st, one y st = one' (f y) st) : ∀ (l : List J) (i : Nat) (st : St), itemsW free one i l st = itemsW free one' i (l.map f) st
  | [], _, _ => by simp [itemsW]
  | y :: l, i, st => by
    rw [List.map_cons, itemsW, itemsW, h]
    exact itemsW_map h l _ _
theorem membersW_map {free : Bool} {one one' : J → St → St} {f : J → J} (h : ∀ y st, one y st = one' (f y) st) : ∀ (ns : List ByteArray) (ys : List J) (seen : List ByteArray) (i : Nat) (st : St), membersW free one seen i ns ys st = membersW free one' seen i ns (ys.map f) st
  | [], ys, _, _, _ => by cases ys <;> simp [membersW]
  | _ :: _, [], _, _, _ => by simp [membersW]
  | nm :: ns, y :: ys, seen, i, st => by
    rw [List.map_cons, membersW, membersW, h, membersW_map h ns ys]
theorem names_len {ns : List ByteArray} {ys : List J} (h : ns.length = ys.length) : (namesOf true ns ys).length = ns.length := by
  have := (namesOf_perm h).length_eq
  exact this
theorem items_len {ns : List ByteArray} {ys : List J} (h : ns.length = ys.length) : (itemsOf true ns ys).length = ys.length := by
  rw [← namesOf_len true h, names_len h, h]
theorem sJ_5 {r : Nat} {v : J} (h5 : v.f0 = 5) : sJ (r + 1) v = ⟨v.f0, v.f1, v.f2, v.f3.map (sJ r)⟩ := by rw [sJ, if_pos h5]
theorem sJ_6 {r : Nat} {v : J} (h6 : v.f0 = 6) (hl : v.f2.length = v.f3.length) : sJ (r + 1) v = ⟨v.f0, v.f1, namesOf true v.f2 v.f3, (itemsOf true v.f2 v.f3).map (sJ r)⟩ := by
  rw [sJ, if_neg (by rw [h6]; decide), if_pos ⟨h6, hl⟩]
theorem sJ_x {r : Nat} {v : J} (h5 : ¬ v.f0 = 5) (h6 : ¬ (v.f0 = 6 ∧ v.f2.length = v.f3.length)) : sJ (r + 1) v = v := by rw [sJ, if_neg h5, if_neg h6]
theorem canon_sort (free : Bool) : ∀ (r : Nat) (v : J) (st : St), valW free true r v st = valW free false r (sJ r v) st
  | 0, v, st => by unfold valW; rfl
  | r + 1, v, st => by
    have IH := canon_sort free r
    by_cases h5 : v.f0 = 5
    · rw [sJ_5 h5, valW, valW]
      simp only [if_pos h5, List.length_map]
      rw [itemsW_map IH]
    · by_cases h6 : v.f0 = 6 ∧ v.f2.length = v.f3.length
      · rw [sJ_6 h6.1 h6.2, valW, valW]
        simp only [List.length_map, names_len h6.2, items_len h6.2, if_neg h5, if_pos h6.1]
        rw [membersW_map IH]
        rfl
      · rw [sJ_x h5 h6, valW, valW]
        by_cases h7 : v.f0 = 6
        · have hn : nodeOK v.f0 v.f1 v.f2.length v.f3.length = false := by
            have hl : ¬ v.f2.length = v.f3.length := fun hl => h6 ⟨h7, hl⟩
            rw [h7]; unfold nodeOK; simp [hl]
          simp only [hn, if_true]
        · simp only [if_neg h5, if_neg h7]
/-! What is fit to be written is written. -/
def Rm (free : Bool) (n : Nat) : Prop := free = false → n ≤ 16384
theorem Rm.le {free : Bool} {n m : Nat} (h : Rm free m) (hm : n ≤ m) : Rm free n := fun hf => Nat.le_trans hm (h hf)
theorem putF_yes {free : Bool} {st : St} {s : List UInt8} (he : st.e = 0) (h : Rm free (st.out.length + s.length)) : putF free st s = ⟨st.out ++ s, 0⟩ := by
  unfold putF
  rw [if_neg (by omega), if_neg (fun hh => by have := h hh.1; omega)]
theorem putsF_yes {free : Bool} : ∀ (l : List (List UInt8)) {st : St}, st.e = 0 → Rm free (st.out.length + l.flatten.length) → putsF free st l = ⟨st.out ++ l.flatten, 0⟩
  | [], st, he, _ => by cases st; simp only at he; subst he; simp [putsF]
  | a :: l, st, he, h => by
    rw [List.flatten_cons, List.length_append] at h
    rw [putsF_cons, putF_yes he (h.le (by omega)), putsF_yes l rfl (h.le (by show (st.out ++ a).length + _ ≤ _; rw [List.length_append]; omega)), List.flatten_cons]
    show (⟨st.out ++ a ++ l.flatten, 0⟩ : St) = _
    rw [List.append_assoc]
def Yes (free : Bool) (one : J → St → St) (P : J → Prop) (enc : J → List UInt8) : Prop := ∀ y st, P y → st.e = 0 → Rm free (st.out.length + (enc y).length) → one y st = ⟨st.out ++ enc y, 0⟩
theorem comma_yes {free : Bool} {i : Nat} {st : St} (he : st.e = 0) (h : Rm free (st.out.length + (if i = 0 then [] else [44] : List UInt8).length)) : (if i = 0 then st else putF free st [44]) = ⟨st.out ++ (if i = 0 then [] else [44]), 0⟩ := by
  by_cases hi : i = 0
  · rw [if_pos hi, if_pos hi, List.append_nil]; cases st; simp only at he; subst he; rfl
  · rw [if_neg hi, if_neg hi]; rw [if_neg hi] at h; exact putF_yes he h
theorem itemsW_yes {free : Bool} {one : J → St → St} {P : J → Prop} {enc : J → List UInt8} (ho : Yes free one P enc) : ∀ (l : List J) (i : Nat) (st : St), (∀ y, y ∈ l → P y) → st.e = 0 → Rm free (st.out.length + (encI enc i l).length) → itemsW free one i l st = ⟨st.out ++ encI enc i l, 0⟩
  | [], i, st, _, he, _ => by rw [itemsW, encI, List.append_nil]; cases st; simp only at he; subst he; rfl
  | y :: l, i, st, hp, he, h => by
    rw [encI, List.length_append, List.length_append] at h
    rw [itemsW, comma_yes he (h.le (by omega)), ho y _ (hp y (List.mem_cons_self ..)) rfl (h.le (by show (st.out ++ _).length + _ ≤ _; rw [List.length_append]; omega)), itemsW_yes ho l (i + 1) _ (fun z hz => hp z (List.mem_cons_of_mem _ hz)) rfl (h.le (by show (st.out ++ _ ++ _).length + _ ≤ _; rw [List.length_append, List.length_append]; omega)), encI]
    simp [List.append_assoc]
theorem membersW_yes {free : Bool} {one : J → St → St} {P : J → Prop} {enc : J → List UInt8} (ho : Yes free one P enc) : ∀ (ns : List ByteArray) (ys : List J) (seen : List ByteArray) (i : Nat) (st : St), ns.length = ys.length → (∀ y, y ∈ ys → P y) → (∀ s, s ∈ ns → validD s.data.toList = true) → ((seen ++ ns).map (fun b => b.data.toList)).Nodup → st.e = 0 → Rm free (st.out.length + (encM enc i ns ys).length) →
    membersW free one seen i ns ys st = ⟨st.out ++ encM enc i ns ys, 0⟩
  | [], [], seen, i, st, _, _, _, _, he, _ => by simp only [membersW, encM, List.append_nil]; cases st; simp only at he; subst he; rfl
  | [], _ :: _, _, _, _, hl, _, _, _, _, _ => by simp at hl
  | _ :: _, [], _, _, _, hl, _, _, _, _, _ => by simp at hl
  | nm :: ns, y :: ys, seen, i, st, hl, hp, hv, hn, he, h => by
    rw [encM] at h
    simp only [List.length_append, List.length_cons] at h
    have h1 := comma_yes (free := free) (i := i) he (h.le (by omega))
    have h3 : ¬ nm.data.toList ∈ seen.map (fun b => b.data.toList) := by
      rw [List.map_append, List.nodup_append] at hn
      intro hm
      exact hn.2.2 _ hm _ (by simp) rfl
    rw [membersW, h1, if_neg (by simp), if_neg (by rw [hv nm (List.mem_cons_self ..)]; simp), if_neg h3]
    have e2 : putsF free (⟨st.out ++ (if i = 0 then [] else [44]), 0⟩ : St) (quoteB nm) = ⟨st.out ++ (if i = 0 then [] else [44]) ++ qB nm, 0⟩ := putsF_yes _ rfl (h.le (by show (st.out ++ _).length + (qB nm).length ≤ _; rw [List.length_append]; omega))
    rw [e2, putF_yes (by rfl) (h.le (by simp only [List.length_append, List.length_cons, List.length_nil]; omega)), ho y _ (hp y (List.mem_cons_self ..)) rfl (h.le (by simp only [List.length_append, List.length_cons, List.length_nil]; omega)),
      membersW_yes ho ns ys (seen ++ [nm]) (i + 1) _ (by simpa using hl) (fun z hz => hp z (List.mem_cons_of_mem _ hz)) (fun z hz => hv z (List.mem_cons_of_mem _ hz)) (by simpa using hn) rfl (h.le (by simp only [List.length_append, List.length_cons, List.length_nil]; omega)), encM]
    simp [List.append_assoc]
theorem base_yes {free : Bool} {v : J} {st : St} (he : st.e = 0) (h : Rm free (st.out.length + (encB v).length)) : (if v.f0 = 3 then putF free st v.f1.data.toList else if v.f0 = 4 then putsF free st (quoteB v.f1) else putF free st (wordB v.f0.toNat).data.toList) = ⟨st.out ++ encB v, 0⟩ := by
  unfold encB at h ⊢
  by_cases h3 : v.f0 = 3
  · simp only [if_pos h3] at h ⊢; exact putF_yes he h
  · simp only [if_neg h3] at h ⊢
    by_cases h4 : v.f0 = 4
    · simp only [if_pos h4] at h ⊢; exact putsF_yes _ he h
    · simp only [if_neg h4] at h ⊢; exact putF_yes he h
theorem valW_yes (free : Bool) : ∀ (r : Nat), Yes free (valW free false r) (OKJ r) (encJ r)
  | 0, v, st, hok, he, h => by
    obtain ⟨hn, h5, h6⟩ := hok
    rw [encJ] at h ⊢
    rw [valW, if_neg (by omega), if_neg (by rintro (h | h); exact h5 h; exact h6 h), if_neg (by rw [hn]; simp)]
    exact base_yes he h
  | r + 1, v, st, hok, he, h => by
    obtain ⟨hn, hi, hm⟩ := hok
    have IH := valW_yes free r
    rw [encJ] at h ⊢
    rw [valW, if_neg (by omega), if_neg (by rw [hn]; simp)]
    by_cases h5 : v.f0 = 5
    · simp only [if_pos h5] at h ⊢
      simp only [List.length_cons, List.length_append, List.length_nil] at h
      rw [putF_yes he (h.le (by simp only [List.length_cons, List.length_nil]; omega)), itemsW_yes IH _ _ _ (hi (.inl h5)) rfl (h.le (by simp only [List.length_append, List.length_cons, List.length_nil]; omega)), putF_yes rfl (h.le (by simp only [List.length_append, List.length_cons, List.length_nil]; omega))]
      simp
    · by_cases h6 : v.f0 = 6
      · have hl : v.f2.length = v.f3.length := by
          rw [h6] at hn; unfold nodeOK at hn; simp at hn; exact hn.2
        simp only [if_neg h5, if_pos h6] at h ⊢
        simp only [List.length_cons, List.length_append, List.length_nil] at h
        rw [putF_yes he (h.le (by simp only [List.length_cons, List.length_nil]; omega))]
        show putF free (membersW free (valW free false r) [] 0 v.f2 v.f3 _) _ = _
        rw [membersW_yes IH _ _ _ _ _ hl (hi (.inr h6)) (hm h6).1 (by simpa using (hm h6).2) rfl (h.le (by simp only [List.length_append, List.length_cons, List.length_nil]; omega)), putF_yes rfl (h.le (by simp only [List.length_append, List.length_cons, List.length_nil]; omega))]
        simp
      · simp only [if_neg h5, if_neg h6] at h ⊢
        exact base_yes he h
end Go.Proofs.YtaalajhmfdcalaaDoor.X
namespace Go.Proofs.YtaalajhmfdcalaaDoor.X
open Go.RowKit Go.Lib Go.Proofs.YtaalajhmfdcalaaDoorW.PrintWords
theorem sum_perm {l l' : List Nat} (h : l.Perm l') : l.sum = l'.sum := by
  induction h with
  | nil => rfl
  | cons x _ ih => simp only [List.sum_cons, ih]
  | swap x y l => simp only [List.sum_cons]; omega
  | trans _ _ h1 h2 => exact h1.trans h2
/-! sortF. -/
def pm (f : J → J) (p : ByteArray × J) : ByteArray × J := (p.1, f p.2)
theorem insF_map (f : J → J) (x : ByteArray × J) : ∀ l, insF (pm f x) (l.map (pm f)) = (insF x l).map (pm f)
  | [] => rfl
  | y :: l => by
    rw [List.map_cons, insF, insF]
    have e : Op.bytesLess (pm f y).1.toList (pm f x).1.toList = Op.bytesLess y.1.toList x.1.toList := rfl
    rw [e]
    split
    · rw [List.map_cons, insF_map f x l]
    · rfl
theorem sortF_map' (f : J → J) : ∀ (l a : List (ByteArray × J)), (l.map (pm f)).foldl (fun a x => insF x a) (a.map (pm f)) = (l.foldl (fun a x => insF x a) a).map (pm f)
  | [], a => rfl
  | x :: l, a => by
    rw [List.map_cons, List.foldl_cons, List.foldl_cons, insF_map, sortF_map' f l]
theorem sortF_map (f : J → J) (l : List (ByteArray × J)) : sortF (l.map (pm f)) = (sortF l).map (pm f) := sortF_map' f l []
theorem sortF_of_perm {P Q : List (ByteArray × J)} (h : Q.Perm P) (hn : (P.map Prod.fst).Nodup) : sortF Q = sortF P :=
  strict_unique ltP ltP_asymm _ _ ((sortF_perm Q).trans (h.trans (sortF_perm P).symm)) (strict_of (sortF_sorted Q) ((((sortF_perm Q).trans h).map Prod.fst).nodup_iff.2 hn)) (strict_of (sortF_sorted P) (((sortF_perm P).map Prod.fst).nodup_iff.2 hn))
theorem zip_pm (f : J → J) (l : List (ByteArray × J)) : (l.map Prod.fst).zip ((l.map Prod.snd).map f) = l.map (pm f) := by
  rw [List.map_map]; exact List.zip_map'
theorem map_pm_fst (f : J → J) (l : List (ByteArray × J)) : (l.map (pm f)).map Prod.fst = l.map Prod.fst := by rw [List.map_map]; rfl
theorem map_pm_snd (f : J → J) (l : List (ByteArray × J)) : (l.map (pm f)).map Prod.snd = (l.map Prod.snd).map f := by rw [List.map_map, List.map_map]; rfl
theorem nodup_names {ns : List ByteArray} (h : (ns.map (fun b => b.data.toList)).Nodup) : ns.Nodup := (List.pairwise_map.1 h).imp (fun hne he => hne (by rw [he]))
theorem zip_fst_nodup {ns : List ByteArray} {ys : List J} (hl : ns.length = ys.length) (h : (ns.map (fun b => b.data.toList)).Nodup) : ((ns.zip ys).map Prod.fst).Nodup := by
  rw [map_fst_zip hl]; exact nodup_names h
/-- Any order of the members, and any other sons that come to the same. -/
theorem sort_any {ns ns' : List ByteArray} {ys ys' : List J} {f g t : J → J} (hl : ns.length = ys.length) (hn : (ns.map (fun b => b.data.toList)).Nodup) {Q : List (ByteArray × J)} (hQ : Q.Perm (ns.zip ys)) (hns : ns' = Q.map Prod.fst) (hys : ys' = (Q.map Prod.snd).map t) (hf : ∀ y, y ∈ ys → g (t y) = f y) :
    namesOf true ns' ys' = namesOf true ns ys ∧ (itemsOf true ns' ys').map g = (itemsOf true ns ys).map f := by
  have e1 : ns'.zip ys' = Q.map (pm t) := by rw [hns, hys]; exact zip_pm t Q
  have e2 : sortF (ns'.zip ys') = (sortF (ns.zip ys)).map (pm t) := by
    rw [e1, sortF_map, sortF_of_perm hQ (zip_fst_nodup hl hn)]
  constructor
  · show (sortF (ns'.zip ys')).map Prod.fst = _
    rw [e2, map_pm_fst]; rfl
  · show ((sortF (ns'.zip ys')).map Prod.snd).map g = _
    rw [e2, map_pm_snd, List.map_map]
    apply List.map_congr_left
    intro y hy
    refine hf y ?_
    have h1 : y ∈ (ns.zip ys).map Prod.snd := ((sortF_perm (ns.zip ys)).map Prod.snd).subset hy
    rw [map_snd_zip hl] at h1
    exact h1
theorem nodeOK_6 {f1 : ByteArray} {n2 n3 m2 m3 : Nat} (h : nodeOK 6 f1 n2 n3 = true) (hm : m2 = m3) : nodeOK 6 f1 m2 m3 = true := by
  unfold nodeOK at h ⊢
  simp at h ⊢
  exact ⟨h.1, hm⟩
theorem nodeOK_5 {f1 : ByteArray} {n2 n3 m3 : Nat} (h : nodeOK 5 f1 n2 n3 = true) : nodeOK 5 f1 n2 m3 = true := by
  unfold nodeOK at h ⊢
  simp at h ⊢
  exact h
theorem items_perm {ns : List ByteArray} {ys : List J} (h : ns.length = ys.length) : (itemsOf true ns ys).Perm ys := by
  have := (sortF_perm (ns.zip ys)).map Prod.snd
  rw [map_snd_zip h] at this
  exact this
theorem OKJ_sJ : ∀ (r : Nat) (v : J), OKJ r v → OKJ r (sJ r v)
  | 0, v, h => h
  | r + 1, v, h => by
    have IH := OKJ_sJ r
    obtain ⟨hn, hi, hm⟩ := h
    by_cases h5 : v.f0 = 5
    · rw [sJ_5 h5]
      refine ⟨?_, fun _ y hy => ?_, fun h6 => absurd (h5.symm.trans h6) (by decide)⟩
      · show nodeOK v.f0 v.f1 v.f2.length (v.f3.map (sJ r)).length = true
        rw [List.length_map]; exact hn
      · obtain ⟨x, hx, rfl⟩ := List.mem_map.1 hy
        exact IH x (hi (.inl h5) x hx)
    · by_cases h6 : v.f0 = 6
      · have hl : v.f2.length = v.f3.length := by rw [h6] at hn; exact (node6_ hn).2
        obtain ⟨g1, g2⟩ := hm h6
        rw [sJ_6 h6 hl]
        refine ⟨?_, fun _ y hy => ?_, fun _ => ⟨fun s hs => g1 s ((namesOf_perm hl).subset hs), ?_⟩⟩
        · show nodeOK v.f0 v.f1 (namesOf true v.f2 v.f3).length ((itemsOf true v.f2 v.f3).map (sJ r)).length = true
          rw [h6] at hn ⊢
          exact nodeOK_6 hn (by rw [List.length_map, names_len hl, items_len hl, hl])
        · obtain ⟨x, hx, rfl⟩ := List.mem_map.1 hy
          exact IH x (hi (.inr h6) x ((items_perm hl).subset hx))
        · exact ((namesOf_perm hl).map _).nodup_iff.2 g2
      · rw [sJ_x h5 (fun h => h6 h.1)]
        exact ⟨hn, hi, hm⟩
/-- In order already. -/
theorem sJ_sJ : ∀ (r : Nat) (v : J), OKJ r v → sJ r (sJ r v) = sJ r v
  | 0, v, h => rfl
  | r + 1, v, h => by
    have IH := sJ_sJ r
    obtain ⟨hn, hi, hm⟩ := h
    by_cases h5 : v.f0 = 5
    · rw [sJ_5 h5, sJ_5 (v := ⟨v.f0, v.f1, v.f2, v.f3.map (sJ r)⟩) h5]
      simp only [List.map_map]
      congr 1
      apply List.map_congr_left
      intro y hy
      exact IH y (hi (.inl h5) y hy)
    · by_cases h6 : v.f0 = 6
      · have hl : v.f2.length = v.f3.length := by rw [h6] at hn; exact (node6_ hn).2
        obtain ⟨g1, g2⟩ := hm h6
        rw [sJ_6 h6 hl, sJ_6 (v := ⟨v.f0, v.f1, namesOf true v.f2 v.f3, (itemsOf true v.f2 v.f3).map (sJ r)⟩) h6 (by show (namesOf true v.f2 v.f3).length = ((itemsOf true v.f2 v.f3).map (sJ r)).length; rw [List.length_map, names_len hl, items_len hl, hl])]
        obtain ⟨k1, k2⟩ := sort_any (f := sJ r) (g := sJ r) (t := sJ r) hl g2 (sortF_perm _) rfl rfl (fun y hy => IH y (hi (.inr h6) y hy))
        show (⟨v.f0, v.f1, namesOf true (namesOf true v.f2 v.f3) ((itemsOf true v.f2 v.f3).map (sJ r)), (itemsOf true (namesOf true v.f2 v.f3) ((itemsOf true v.f2 v.f3).map (sJ r))).map (sJ r)⟩ : J) = _
        rw [show namesOf true (namesOf true v.f2 v.f3) ((itemsOf true v.f2 v.f3).map (sJ r)) = namesOf true v.f2 v.f3 from k1, show (itemsOf true (namesOf true v.f2 v.f3) ((itemsOf true v.f2 v.f3).map (sJ r))).map (sJ r) = (itemsOf true v.f2 v.f3).map (sJ r) from k2]
      · rw [sJ_x h5 (fun h => h6 h.1), sJ_x h5 (fun h => h6 h.1)]
/-! How long it is. -/
theorem encI_map (enc : J → List UInt8) (f : J → J) : ∀ (l : List J) (i : Nat), encI enc i (l.map f) = encI (fun y => enc (f y)) i l
  | [], _ => rfl
  | y :: l, i => by rw [List.map_cons, encI, encI, encI_map enc f l]
theorem encM_map (enc : J → List UInt8) (f : J → J) : ∀ (ns : List ByteArray) (ys : List J) (i : Nat), encM enc i ns (ys.map f) = encM (fun y => enc (f y)) i ns ys
  | [], ys, i => by cases ys <;> simp [encM]
  | _ :: _, [], i => by simp [encM]
  | nm :: ns, y :: ys, i => by rw [List.map_cons, encM, encM, encM_map enc f ns ys]
theorem encI_len {e1 e2 : J → List UInt8} (h : ∀ y, (e1 y).length = (e2 y).length) : ∀ (l : List J) (i : Nat), (encI e1 i l).length = (encI e2 i l).length
  | [], _ => rfl
  | y :: l, i => by rw [encI, encI]; simp only [List.length_append, h, encI_len h l]
theorem encM_len {e1 e2 : J → List UInt8} (h : ∀ y, (e1 y).length = (e2 y).length) : ∀ (ns : List ByteArray) (ys : List J) (i : Nat), (encM e1 i ns ys).length = (encM e2 i ns ys).length
  | [], ys, i => by cases ys <;> simp [encM]
  | _ :: _, [], i => by simp [encM]
  | nm :: ns, y :: ys, i => by rw [encM, encM]; simp only [List.length_append, List.length_cons, h, encM_len h ns ys]
def lenP (enc : J → List UInt8) (l : List (ByteArray × J)) : Nat := (l.map (fun p => (qB p.1).length + 2 + (enc p.2).length)).sum
theorem encM_lenP (enc : J → List UInt8) : ∀ (ns : List ByteArray) (ys : List J) (i : Nat), (encM enc i ns ys).length + (if i = 0 ∧ ns.zip ys ≠ [] then 1 else 0) = lenP enc (ns.zip ys)
  | [], ys, i => by cases ys <;> simp [encM, lenP]
  | _ :: _, [], i => by simp [encM, lenP]
  | nm :: ns, y :: ys, i => by
    have := encM_lenP enc ns ys (i + 1)
    rw [if_neg (by omega)] at this
    rw [encM, List.zip_cons_cons]
    unfold lenP at this ⊢
    rw [List.map_cons, List.sum_cons, ← this]
    by_cases hi : i = 0
    · simp [hi]; omega
    · simp [hi]; omega
theorem encM_perm (enc : J → List UInt8) {ns ns' : List ByteArray} {ys ys' : List J} (h : (ns'.zip ys').Perm (ns.zip ys)) : (encM enc 0 ns' ys').length = (encM enc 0 ns ys).length := by
  have h1 := encM_lenP enc ns ys 0
  have h2 := encM_lenP enc ns' ys' 0
  have h3 : lenP enc (ns'.zip ys') = lenP enc (ns.zip ys) := sum_perm (h.map _)
  have h4 : (ns'.zip ys' ≠ []) ↔ (ns.zip ys ≠ []) := by
    have := h.length_eq
    rw [← List.length_pos_iff, ← List.length_pos_iff, this]
  have h5 : (if (0 : Nat) = 0 ∧ ns'.zip ys' ≠ [] then 1 else 0 : Nat) = (if (0 : Nat) = 0 ∧ ns.zip ys ≠ [] then 1 else 0) := by simp only [h4]
  rw [h5] at h2
  omega
theorem zip_names {ns : List ByteArray} {ys : List J} : (namesOf true ns ys).zip (itemsOf true ns ys) = sortF (ns.zip ys) := by
  show ((sortF (ns.zip ys)).map Prod.fst).zip ((sortF (ns.zip ys)).map Prod.snd) = _
  rw [List.zip_map']
  simp
theorem encJ_sJ_len : ∀ (r : Nat) (v : J), (encJ r (sJ r v)).length = (encJ r v).length
  | 0, v => rfl
  | r + 1, v => by
    have IH := encJ_sJ_len r
    by_cases h5 : v.f0 = 5
    · rw [sJ_5 h5, encJ, encJ]
      simp only [if_pos h5, List.length_cons, List.length_append]
      rw [encI_map, encI_len IH]
    · by_cases h6 : v.f0 = 6 ∧ v.f2.length = v.f3.length
      · rw [sJ_6 h6.1 h6.2, encJ, encJ]
        simp only [if_neg h5, if_pos h6.1, List.length_cons, List.length_append]
        rw [encM_map, encM_len IH, encM_perm]
        rw [zip_names]
        exact sortF_perm _
      · rw [sJ_x h5 h6]
end Go.Proofs.YtaalajhmfdcalaaDoor.X
namespace Go.Proofs.YtaalajhmfdcalaaDoor.X
open Go.RowKit Go.Lib Go.Proofs.YtaalajhmfdcalaaDoorW.PrintWords
theorem dec_four (s : ByteArray) (pos : Nat) : (Utf8.decode s pos).2 ≤ 4 := by
  simp only [Utf8.decode]
  repeat' split
  all_goals simp_all
theorem runeB_pos (c : Nat) : 1 ≤ lensL (runeB c) := by
  unfold runeB
  repeat' split
  all_goals simp [lensL, unitB]
theorem quoteL_low (s : ByteArray) : ∀ (k pos : Nat), s.size - pos ≤ k → s.size - pos ≤ 4 * lensL (quoteL s k pos)
  | 0, pos, h => by omega
  | k + 1, pos, h => by
    by_cases hp : pos < s.size
    · rw [quoteL_on s k pos hp]
      have h1 := runeB_pos (Utf8.decode s pos).1
      have h2 := (dec_small s pos).2
      have h3 := dec_four s pos
      have h4 := quoteL_low s k (pos + (Utf8.decode s pos).2) (by omega)
      have e : lensL (runeB (Utf8.decode s pos).1 ++ quoteL s k (pos + (Utf8.decode s pos).2)) = lensL (runeB (Utf8.decode s pos).1) + lensL (quoteL s k (pos + (Utf8.decode s pos).2)) := by simp [lensL]
      omega
    · omega
theorem qB_size (s : ByteArray) : s.size ≤ 4 * (qB s).length := by
  have h := quoteL_low s (s.size + 1) 0 (by omega)
  have e : (qB s).length = 1 + (lensL (quoteL s (s.size + 1) 0) + 1) := by simp [qB, lensL, quoteB, List.length_flatten]; omega
  omega
theorem enc_pos {r : Nat} {v : J} (h : OKJ r v) : 1 ≤ (encJ r v).length := by
  obtain ⟨c, t, e, _⟩ := encJ_head r v h
  rw [e, List.length_cons]; omega
theorem nil_of {α : Type} {l : List α} (h : l.length = 0) : l = [] := List.length_eq_zero_iff.1 h
theorem leaf_wt {v : J} {r : Nat} (hn : nodeOK v.f0 v.f1 v.f2.length v.f3.length = true) (h5 : ¬ v.f0 = 5) (h6 : ¬ v.f0 = 6) : wtJ r v = 12 * v.f1.size + 16 ∧ v.f1.size ≤ 4 * (encB v).length ∧ v.f2 = [] ∧ v.f3 = [] := by
  have h3 : v.f2.length = 0 ∧ v.f3.length = 0 ∧ v.f1.size ≤ 4 * (encB v).length := by
    rcases nodeOK_kinds hn h5 h6 with h | h | h | h | h
    · have := node0_ (.inl h) hn; exact ⟨this.2.1, this.2.2, by omega⟩
    · have := node0_ (.inr (.inl h)) hn; exact ⟨this.2.1, this.2.2, by omega⟩
    · have := node0_ (.inr (.inr h)) hn; exact ⟨this.2.1, this.2.2, by omega⟩
    · rw [h] at hn
      have := node3_ hn
      refine ⟨this.2.1, this.2.2, ?_⟩
      unfold encB; rw [if_pos h, size_data]; omega
    · rw [h] at hn
      have := node4_ hn
      refine ⟨this.2.1, this.2.2, ?_⟩
      unfold encB; rw [if_neg (by rw [h]; decide), if_pos h]; exact qB_size _
  have e2 := nil_of h3.1
  have e3 := nil_of h3.2.1
  refine ⟨?_, h3.2.2, e2, e3⟩
  cases r with
  | zero => rfl
  | succ r => unfold wtJ; rw [e2, e3]; simp
theorem encI_ge (enc : J → List UInt8) : ∀ (l : List J) (i : Nat), (l.map (fun y => (enc y).length)).sum ≤ (encI enc i l).length
  | [], _ => by simp
  | y :: l, i => by
    have := encI_ge enc l (i + 1)
    rw [encI]
    simp only [List.map_cons, List.sum_cons, List.length_append]
    omega
theorem sum_le_mul {α : Type} (f g : α → Nat) (c : Nat) : ∀ (l : List α), (∀ y, y ∈ l → f y ≤ c * g y) → (l.map f).sum ≤ c * (l.map g).sum
  | [], _ => by simp
  | y :: l, h => by
    have h1 := h y (List.mem_cons_self ..)
    have h2 := sum_le_mul f g c l (fun z hz => h z (List.mem_cons_of_mem _ hz))
    simp only [List.map_cons, List.sum_cons, Nat.mul_add]
    omega
theorem sum_two {α : Type} (f g : α → Nat) : ∀ (l : List α), (l.map (fun y => f y + g y)).sum = (l.map f).sum + (l.map g).sum
  | [] => by simp
  | y :: l => by simp only [List.map_cons, List.sum_cons, sum_two f g l]; omega
theorem wt_enc : ∀ (r : Nat) (v : J), OKJ r v → wtJ r v + 1 ≤ 65 * (encJ r v).length
  | 0, v, h => by
    obtain ⟨hn, h5, h6⟩ := h
    obtain ⟨w1, w2, _, _⟩ := leaf_wt (r := 0) hn h5 h6
    have := enc_pos (r := 0) ⟨hn, h5, h6⟩
    rw [w1]
    show _ ≤ 65 * (encB v).length
    change 1 ≤ (encB v).length at this
    omega
  | r + 1, v, h => by
    have IH := wt_enc r
    have hp := enc_pos h
    obtain ⟨hn, hi, hm⟩ := h
    by_cases h5 : v.f0 = 5
    · rw [h5] at hn
      have n5 := node5_ hn
      have e2 := nil_of n5.2
      have s1 : (v.f3.map (fun y => wtJ r y + 1)).sum ≤ 65 * (v.f3.map (fun y => (encJ r y).length)).sum := sum_le_mul _ _ 65 _ (fun y hy => IH y (hi (.inl h5) y hy))
      have s2 := encI_ge (encJ r) v.f3 0
      rw [encJ, if_pos h5, List.length_cons, List.length_append, wtJ, e2, n5.1]
      simp only [List.map_nil, List.sum_nil, List.length_cons, List.length_nil]
      omega
    · by_cases h6 : v.f0 = 6
      · rw [h6] at hn
        have n6 := node6_ hn
        have hl : v.f2.length = v.f3.length := n6.2
        have s1 : (v.f2.map (fun s => 12 * s.size + 16)).sum = ((v.f2.zip v.f3).map (fun p => 12 * p.1.size + 16)).sum := by
          conv => lhs; rw [← map_fst_zip hl]
          rw [List.map_map]; rfl
        have s2 : (v.f3.map (fun y => wtJ r y + 1)).sum = ((v.f2.zip v.f3).map (fun p => wtJ r p.2 + 1)).sum := by
          conv => lhs; rw [← map_snd_zip hl]
          rw [List.map_map]; rfl
        have s3 : ((v.f2.zip v.f3).map (fun p => (12 * p.1.size + 16) + (wtJ r p.2 + 1))).sum ≤ 65 * lenP (encJ r) (v.f2.zip v.f3) := sum_le_mul _ _ 65 _ (fun p hp => by
          have h1 := IH p.2 (hi (.inr h6) p.2 (List.of_mem_zip hp).2)
          have h2 := qB_size p.1
          omega)
        rw [sum_two] at s3
        have s4 := encM_lenP (encJ r) v.f2 v.f3 0
        have s5 : (if (0 : Nat) = 0 ∧ v.f2.zip v.f3 ≠ [] then 1 else 0 : Nat) ≤ 1 := by split <;> omega
        rw [encJ, if_neg h5, if_pos h6, List.length_cons, List.length_append, wtJ, n6.1]
        simp only [List.length_cons, List.length_nil]
        omega
      · obtain ⟨w1, w2, _, _⟩ := leaf_wt (r := r + 1) hn h5 h6
        rw [encJ, if_neg h5, if_neg h6] at hp ⊢
        rw [w1]
        omega
theorem mem_sum {α : Type} (f : α → Nat) {y : α} : ∀ {l : List α}, y ∈ l → f y ≤ (l.map f).sum
  | z :: l, h => by
    rw [List.map_cons, List.sum_cons]
    rcases List.mem_cons.1 h with e | h
    · rw [e]; omega
    · have := mem_sum f h; omega
theorem len_sum {α : Type} (f : α → Nat) : ∀ {l : List α}, (∀ y, y ∈ l → 17 ≤ f y) → 17 * l.length ≤ (l.map f).sum
  | [], _ => by simp
  | z :: l, h => by
    have h1 := h z (List.mem_cons_self ..)
    have h2 := len_sum f (l := l) (fun y hy => h y (List.mem_cons_of_mem _ hy))
    simp only [List.map_cons, List.sum_cons, List.length_cons]
    omega
theorem SmJ_of_wt : ∀ (r : Nat) (v : J), wtJ r v ≤ 17000000 → SmJ r v
  | 0, v, h => by unfold wtJ at h; unfold SmJ; omega
  | r + 1, v, h => by
    unfold wtJ at h
    refine ⟨by omega, fun s hs => ?_, fun y hy => SmJ_of_wt r y ?_⟩
    · have := mem_sum (fun s : ByteArray => 12 * s.size + 16) hs
      omega
    · have := mem_sum (fun y => wtJ r y + 1) hy
      omega
theorem LnJ_of_wt : ∀ (r : Nat) (v : J), wtJ r v ≤ 17000000 → LnJ r v
  | 0, _, _ => trivial
  | r + 1, v, h => by
    unfold wtJ at h
    refine ⟨?_, fun y hy => LnJ_of_wt r y ?_⟩
    · have := len_sum (fun y => wtJ r y + 1) (l := v.f3) (fun y _ => by have := wtJ_text r y; show 17 ≤ wtJ r y + 1; omega)
      omega
    · have := mem_sum (fun y => wtJ r y + 1) hy
      omega
/-! Printable bytes. -/
def Pr (l : List UInt8) : Prop := ∀ b, b ∈ l → 32 ≤ b.toNat ∧ b.toNat ≤ 126
theorem Pr.app {a b : List UInt8} (ha : Pr a) (hb : Pr b) : Pr (a ++ b) := fun x hx => (List.mem_append.1 hx).elim (ha x) (hb x)
theorem Pr.cons {c : UInt8} {b : List UInt8} (hc : 32 ≤ c.toNat ∧ c.toNat ≤ 126) (hb : Pr b) : Pr (c :: b) := fun x hx => (List.mem_cons.1 hx).elim (fun e => e ▸ hc) (hb x)
theorem Pr.nil : Pr [] := fun _ h => by cases h
theorem hexD_pr (n : Nat) : 32 ≤ (hexD n).toNat ∧ (hexD n).toNat ≤ 126 := by
  unfold hexD
  have h : n % 16 < 16 := Nat.mod_lt _ (by decide)
  generalize n % 16 = d at h
  rcases (by omega : d = 0 ∨ d = 1 ∨ d = 2 ∨ d = 3 ∨ d = 4 ∨ d = 5 ∨ d = 6 ∨ d = 7 ∨ d = 8 ∨ d = 9 ∨ d = 10 ∨ d = 11 ∨ d = 12 ∨ d = 13 ∨ d = 14 ∨ d = 15) with rfl | rfl | rfl | rfl | rfl | rfl | rfl | rfl | rfl | rfl | rfl | rfl | rfl | rfl | rfl | rfl
  all_goals decide
theorem unitB_pr (c : Nat) : Pr (unitB c) := by
  unfold unitB
  exact .cons (by decide) (.cons (by decide) (.cons (hexD_pr _) (.cons (hexD_pr _) (.cons (hexD_pr _) (.cons (hexD_pr _) .nil)))))
theorem runeB_pr (c : Nat) : Pr (runeB c).flatten := by
  unfold runeB
  by_cases h1 : c = 34 ∨ c = 92
  · rw [if_pos h1]
    rcases h1 with rfl | rfl
    · exact .cons (by decide) (.cons (by decide) .nil)
    · exact .cons (by decide) (.cons (by decide) .nil)
  · rw [if_neg h1]
    repeat' split
    all_goals simp only [List.flatten_cons, List.flatten_nil, List.append_nil]
    all_goals first
      | exact unitB_pr _
      | exact (unitB_pr _).app (unitB_pr _)
      | exact .cons (by decide) (.cons (by decide) .nil)
      | skip
    rename_i h7
    refine .cons ?_ .nil
    rw [UInt8.toNat_ofNat']
    omega
theorem quoteL_pr (s : ByteArray) : ∀ (k pos : Nat), Pr (quoteL s k pos).flatten
  | 0, _ => .nil
  | k + 1, pos => by
    by_cases h : pos < s.size
    · rw [quoteL_on s k pos h, List.flatten_append]; exact (runeB_pr _).app (quoteL_pr s k _)
    · rw [quoteL_end s _ pos h]; exact .nil
theorem qB_pr (s : ByteArray) : Pr (qB s) := by
  unfold qB quoteB
  rw [List.flatten_cons, List.flatten_append]
  exact (Pr.cons (by decide) .nil).app ((quoteL_pr s _ _).app (Pr.cons (by decide) .nil))
def Nm (l : List UInt8) (i : Nat) : Prop := ∀ k, k < i → ∀ c : UInt8, l[k]? = some c → 32 ≤ c.toNat ∧ c.toNat ≤ 126
theorem isDg_pr {c : UInt8} (h : isDg c = true) : 32 ≤ c.toNat ∧ c.toNat ≤ 126 := by
  unfold isDg at h
  simp at h
  omega
theorem digs_at (l : List UInt8) (j k : Nat) (h1 : j ≤ k) (h2 : k < j + digsF (l.drop j)) (c : UInt8) (hc : l[k]? = some c) : isDg c = true := by
  unfold digsF at h2
  have hp : (l.drop j).takeWhile isDg <+: l.drop j := List.takeWhile_prefix _
  have hi : k - j < ((l.drop j).takeWhile isDg).length := by omega
  have e1 : ((l.drop j).takeWhile isDg)[k - j] = c := by
    rw [hp.getElem hi]
    have : (l.drop j)[k - j]? = some c := by rw [List.getElem?_drop, show j + (k - j) = k by omega]; exact hc
    exact (List.getElem?_eq_some_iff.1 this).2
  have h3 := List.all_takeWhile (l := l.drop j) (p := isDg)
  rw [List.all_eq_true] at h3
  exact e1 ▸ h3 _ (List.getElem_mem hi)
theorem Nm.more {l : List UInt8} {i j : Nat} (h : Nm l i) (hij : ∀ k, i ≤ k → k < j → ∀ c : UInt8, l[k]? = some c → 32 ≤ c.toNat ∧ c.toNat ≤ 126) : Nm l j := fun k hk c hc => by
  by_cases h1 : k < i
  · exact h k h1 c hc
  · exact hij k (by omega) hk c hc
theorem Nm.digs {l : List UInt8} {i : Nat} (h : Nm l i) : Nm l (i + digsF (l.drop i)) := h.more (fun k h1 h2 c hc => isDg_pr (digs_at l i k h1 h2 c hc))
theorem Nm.one {l : List UInt8} {i : Nat} {d : UInt8} (h : Nm l i) (hd : l[i]? = some d) (hp : 32 ≤ d.toNat ∧ d.toNat ≤ 126) : Nm l (i + 1) := h.more (fun k h1 h2 c hc => by
  obtain rfl : k = i := by omega
  rw [hd] at hc; injection hc with hc; exact hc ▸ hp)
theorem litE_nm {l : List UInt8} {i : Nat} (h : Nm l i) (hl : (litE l i).2 = true) : Nm l (litE l i).1 := by
  unfold litE at hl ⊢
  cases hc : l[i]? with
  | none => exact h
  | some c =>
    simp only [hc] at hl ⊢
    by_cases h1 : c = 101 ∨ c = 69
    · simp only [if_pos h1] at hl ⊢
      have h2 : Nm l (i + 1) := h.one hc (by rcases h1 with rfl | rfl <;> decide)
      have h3 : Nm l (match l[i + 1]? with | some d => if d = 43 ∨ d = 45 then i + 2 else i + 1 | none => i + 1) := by
        cases hd : l[i + 1]? with
        | none => exact h2
        | some d =>
          show Nm l (if d = 43 ∨ d = 45 then i + 2 else i + 1)
          split
          · rename_i h4
            exact h2.one hd (by rcases h4 with rfl | rfl <;> decide)
          · exact h2
      have key : ∀ j : Nat, Nm l j → ∀ o : Nat × Bool, o = (if digsF (l.drop j) = 0 then (j, false) else (j + digsF (l.drop j), true)) → o.2 = true → Nm l o.1 := by
        intro j hj o ho hl
        subst ho
        by_cases h4 : digsF (l.drop j) = 0
        · rw [if_pos h4] at hl; cases hl
        · rw [if_neg h4]; exact hj.digs
      exact key _ h3 _ rfl hl
    · simp only [if_neg h1]; exact h
theorem litD_nm {l : List UInt8} {i : Nat} (h : Nm l i) (hl : (litD l i).2 = true) : Nm l (litD l i).1 := by
  unfold litD at hl ⊢
  by_cases h1 : l[i]? = some 46
  · simp only [if_pos h1] at hl ⊢
    by_cases h2 : digsF (l.drop (i + 1)) = 0
    · simp only [if_pos h2] at hl; cases hl
    · simp only [if_neg h2] at hl ⊢
      exact litE_nm (h.one h1 (by decide)).digs hl
  · simp only [if_neg h1] at hl ⊢
    exact litE_nm h hl
theorem litF_nm {l : List UInt8} (hl : (litF l).2 = true) : Nm l (litF l).1 := by
  have key : ∀ i : Nat, Nm l i → ∀ o : Nat × Bool, o = (if l[i]? = some 48 then litD l (i + 1) else if digsF (l.drop i) = 0 then (i, false) else litD l (i + digsF (l.drop i))) → o.2 = true → Nm l o.1 := by
    intro i h0 o ho hl
    subst ho
    by_cases h1 : l[i]? = some 48
    · rw [if_pos h1] at hl ⊢
      exact litD_nm (h0.one h1 (by decide)) hl
    · rw [if_neg h1] at hl ⊢
      by_cases h2 : digsF (l.drop i) = 0
      · rw [if_pos h2] at hl; cases hl
      · rw [if_neg h2] at hl ⊢
        exact litD_nm h0.digs hl
  have h0 : Nm l (if l[0]? = some 45 then 1 else 0) := by
    split
    · rename_i h; exact Nm.one (i := 0) (fun k hk => by omega) h (by decide)
    · exact fun k hk => by omega
  exact key _ h0 (litF l) rfl hl
theorem encB_pr {v : J} (hn : nodeOK v.f0 v.f1 v.f2.length v.f3.length = true) (h5 : ¬ v.f0 = 5) (h6 : ¬ v.f0 = 6) : Pr (encB v) := by
  unfold encB
  by_cases h3 : v.f0 = 3
  · rw [if_pos h3]
    rw [h3] at hn
    have e := (node3_ hn).1
    have h := litF_nm (l := v.f1.data.toList) (by rw [e])
    rw [e] at h
    intro b hb
    obtain ⟨k, hk, rfl⟩ := List.getElem_of_mem hb
    exact h k (by rw [← size_data]; exact hk) _ (List.getElem?_eq_getElem hk)
  · rw [if_neg h3]
    by_cases h4 : v.f0 = 4
    · rw [if_pos h4]; exact qB_pr _
    · rw [if_neg h4]
      unfold wordB
      unfold Pr
      repeat' split
      all_goals decide
theorem encI_pr {enc : J → List UInt8} : ∀ (l : List J) (i : Nat), (∀ y, y ∈ l → Pr (enc y)) → Pr (encI enc i l)
  | [], _, _ => .nil
  | y :: l, i, h => by
    rw [encI]
    refine Pr.app ?_ ((h y (List.mem_cons_self ..)).app (encI_pr l _ (fun z hz => h z (List.mem_cons_of_mem _ hz))))
    split
    · exact .nil
    · exact .cons (by decide) .nil
theorem encM_pr {enc : J → List UInt8} : ∀ (ns : List ByteArray) (ys : List J) (i : Nat), (∀ y, y ∈ ys → Pr (enc y)) → Pr (encM enc i ns ys)
  | [], ys, _, _ => by cases ys <;> exact .nil
  | _ :: _, [], _, _ => .nil
  | nm :: ns, y :: ys, i, h => by
    rw [encM]
    refine Pr.app ?_ ((qB_pr nm).app (.cons (by decide) ((h y (List.mem_cons_self ..)).app (encM_pr ns ys _ (fun z hz => h z (List.mem_cons_of_mem _ hz))))))
    split
    · exact .nil
    · exact .cons (by decide) .nil
theorem encJ_pr : ∀ (r : Nat) (v : J), OKJ r v → Pr (encJ r v)
  | 0, v, h => encB_pr h.1 h.2.1 h.2.2
  | r + 1, v, h => by
    obtain ⟨hn, hi, hm⟩ := h
    rw [encJ]
    by_cases h5 : v.f0 = 5
    · rw [if_pos h5]
      exact .cons (by decide) ((encI_pr _ _ (fun y hy => encJ_pr r y (hi (.inl h5) y hy))).app (.cons (by decide) .nil))
    · rw [if_neg h5]
      by_cases h6 : v.f0 = 6
      · rw [if_pos h6]
        exact .cons (by decide) ((encM_pr _ _ _ (fun y hy => encJ_pr r y (hi (.inr h6) y hy))).app (.cons (by decide) .nil))
      · rw [if_neg h6]
        exact encB_pr hn h5 h6
end Go.Proofs.YtaalajhmfdcalaaDoor.X
namespace Go.Proofs.YtaalajhmfdcalaaDoor.X
open Go.RowKit Go.Lib Go.Proofs.YtaalajhmfdcalaaDoorW.PrintWords Go.Proofs.YtaalajhmfdcalaaDoorW.PrintLast Go.Proofs.YtaalajhmfdcalaaDoorW.PrintMore
/-- Where sorted's variables lie: the object, its answer, the places (their row blk), the answer as it grows. -/
structure SGeo (B Bo Br Ba blk Bp : Nat) : Prop where
  o : B ≤ Bo
  r : B ≤ Br
  a : B ≤ Ba
  k : B ≤ blk
  p : B ≤ Bp
  po : Bo ≠ Bp
  pr : Br ≠ Bp
  pa : Ba ≠ Bp
  pk : blk ≠ Bp
def okS (B Bp Br : Nat) (ok : Nat → Prop) (k : Nat) : Prop := (ok k ∧ k < B) ∨ (B ≤ k ∧ k ≠ Bp ∧ k ≠ Br)
structure SI (W : World) (Bo Br Ba blk Bp : Nat) (ok : Nat → Prop) (v2 v3 va : Value) (C : Array Value) (sn sv : Value) (ln : List ByteArray) (li : List J) (w : World) : Prop where
  o : w.heap[Bo]? = some (.cells #[v2, v3] 84 (0, 0))
  r : w.heap[Br]? = some (.cells #[.slice none 0 0, .slice none 0 0] 84 (0, 0))
  a : w.heap[Ba]? = some (.cells #[va] 107 (0, 0))
  k : w.heap[blk]? = some (.cells C 3 (0, 0))
  p : w.heap[Bp]? = some (.cells #[sn, sv] 84 (0, 0))
  names : Kd.string.R 9 w W.heap.size (fun k => k ≠ Bp ∧ k ≠ Br) sn ln
  items : Kd.N k25 25 w W.heap.size (fun k => okS W.heap.size Bp Br ok k ∧ some k ≠ sn.ownBlock) sv li
  bel : Below W.heap.size W w
section
variable {W w w' : World} {Bo Br Ba blk Bp : Nat} {ok : Nat → Prop} {v2 v3 va : Value} {C : Array Value} {sn sv : Value} {ln : List ByteArray} {li : List J}
theorem SI.below (h : SI W Bo Br Ba blk Bp ok v2 v3 va C sn sv ln li w) (hb : Below w.heap.size w w') : SI W Bo Br Ba blk Bp ok v2 v3 va C sn sv ln li w' :=
  ⟨(hb.block _ (lt_of_block h.o)).trans h.o, (hb.block _ (lt_of_block h.r)).trans h.r, (hb.block _ (lt_of_block h.a)).trans h.a, (hb.block _ (lt_of_block h.k)).trans h.k, (hb.block _ (lt_of_block h.p)).trans h.p, Kd.R_below h.names hb, Kd.N_below h.items hb, below_step h.bel hb⟩
theorem SI.ltB (h : SI W Bo Br Ba blk Bp ok v2 v3 va C sn sv ln li w) : W.heap.size ≤ w.heap.size := h.bel.size
/-- Behind the append of a name and the store. -/
theorem SI.name {v1 : Value} {w6 : World} {nm : ByteArray} (h : SI W Bo Br Ba blk Bp ok v2 v3 va C sn sv ln li w) (g : SGeo W.heap.size Bo Br Ba blk Bp) (ho : Kd.string.R 9 w6 W.heap.size (fun k => k ≠ Bp ∧ k ≠ Br) v1 (ln ++ [nm])) (hb : Below W.heap.size W w6) (hg : w.grownBy w6 sn.ownBlock)
    (hat : v1.ownBlock = sn.ownBlock ∨ ∃ b, v1.ownBlock = some b ∧ w.heap.size ≤ b) : SI W Bo Br Ba blk Bp ok v2 v3 va C v1 sv (ln ++ [nm]) li (w6.setCell ⟨Bp, 0, none⟩ v1) := by
  have key : ∀ {b : Nat} {c : Array Value} {t : TypeId}, w.heap[b]? = some (.cells c t (0, 0)) → 9 ≠ t → w6.heap[b]? = some (.cells c t (0, 0)) := fun hk ht => blk_grown hk hg (Kd.R_ne h.names hk ht)
  have far : ∀ {b : Nat} {o : Obj}, b ≠ Bp → w6.heap[b]? = some o → (w6.setCell ⟨Bp, 0, none⟩ v1).heap[b]? = some o := fun hne hk => (Below.heap_setCell _ _ _ _ hne).trans hk
  refine ⟨far g.po (key h.o (by decide)), far g.pr (key h.r (by decide)), far g.pa (key h.a (by decide)), far g.pk (key h.k (by decide)), (blk_set 0 v1 (key h.p (by decide))).trans rfl, Kd.R_far ho (fun _ hk => hk.1) _, Kd.N_far (Kd.N_after h.items hg hat) (fun k hk => ?_) _, below_set hb g.p⟩
  rcases hk.1 with ⟨_, h1⟩ | ⟨_, h1, _⟩
  · have := g.p; show k ≠ Bp; omega
  · exact h1
/-- Behind the append of an item and the store. -/
theorem SI.item {v1 : Value} {w6 : World} {y : J} (h : SI W Bo Br Ba blk Bp ok v2 v3 va C sn sv ln li w) (g : SGeo W.heap.size Bo Br Ba blk Bp) (ho : Kd.N k25 25 w6 W.heap.size (fun k => okS W.heap.size Bp Br ok k ∧ some k ≠ sn.ownBlock) v1 (li ++ [y])) (hb : Below W.heap.size W w6) (hg : w.grownBy w6 sv.ownBlock) :
    SI W Bo Br Ba blk Bp ok v2 v3 va C sn v1 ln (li ++ [y]) (w6.setCell ⟨Bp, 1, none⟩ v1) := by
  have key : ∀ {b : Nat} {c : Array Value} {t : TypeId}, w.heap[b]? = some (.cells c t (0, 0)) → 25 ≠ t → w6.heap[b]? = some (.cells c t (0, 0)) := fun hk ht => blk_grown hk hg (Kd.N_ne h.items hk ht)
  have far : ∀ {b : Nat} {o : Obj}, b ≠ Bp → w6.heap[b]? = some o → (w6.setCell ⟨Bp, 1, none⟩ v1).heap[b]? = some o := fun hne hk => (Below.heap_setCell _ _ _ _ hne).trans hk
  refine ⟨far g.po (key h.o (by decide)), far g.pr (key h.r (by decide)), far g.pa (key h.a (by decide)), far g.pk (key h.k (by decide)), (blk_set 1 v1 (key h.p (by decide))).trans rfl, Kd.R_far (Kd.R_over' h.names (Kd.N_typed h.items) (by decide) hg) (fun _ hk => hk.1) _, Kd.N_far ho (fun k hk => ?_) _, below_set hb g.p⟩
  rcases hk.1 with ⟨_, h1⟩ | ⟨_, h1, _⟩
  · have := g.p; show k ≠ Bp; omega
  · exact h1
/-- What the object reads, where only newer blocks have turned. -/
theorem F_sorted {α : Type} {d : Kd α} {A : Option Addr} {n : Nat} {xs : List α} (hf : Kd.F d W ok A n xs) (hb : Below W.heap.size W w) : Kd.F d w (fun k => ok k ∧ k < W.heap.size) A n xs := Kd.F_old hf hb
end
end Go.Proofs.YtaalajhmfdcalaaDoor.X
namespace Go.Proofs.YtaalajhmfdcalaaDoor.X
open Go.RowKit Go.Lib Go.Proofs.YtaalajhmfdcalaaDoorW.PrintWords Go.Proofs.YtaalajhmfdcalaaDoorW.PrintLast Go.Proofs.YtaalajhmfdcalaaDoorW.PrintMore
def atC (n i : Nat) : Array Value := ((List.range n).map fun k : Nat => if k < i then Value.int .i64 (k : Int) else .int .i64 0).toArray
theorem atC_size (n i : Nat) : (atC n i).size = n := by simp [atC]
theorem atC_zero (n : Nat) : madeCells #[.int .i64 0] n = atC n 0 := by
  apply Array.ext
  · simp [atC, madeCells]
  · intro i h1 h2
    simp [atC, madeCells, Nat.mod_one]
theorem atC_set (n i : Nat) : (atC n i).setIfInBounds i (.int .i64 (i : Int)) = atC n (i + 1) := by
  apply Array.ext
  · simp [atC]
  · intro k h1 h2
    rw [Array.getElem_setIfInBounds]
    · simp only [atC, List.getElem_toArray, List.getElem_map, List.getElem_range]
      by_cases hk : i = k
      · subst hk; simp
      · rw [if_neg hk]
        by_cases h3 : k < i
        · rw [if_pos h3, if_pos (by omega)]
        · rw [if_neg h3, if_neg (by omega)]
    · simpa [atC] using h1
theorem atC_full (n : Nat) : atC n n = ((List.range n).map fun k : Nat => Value.int .i64 (k : Int)).toArray := by
  unfold atC
  congr 1
  apply List.map_congr_left
  intro k hk
  rw [if_pos (List.mem_range.1 hk)]
structure S1 (W : World) (Bo Br Ba blk n : Nat) (v2 v3 : Value) (i : Nat) (w : World) : Prop where
  o : w.heap[Bo]? = some (.cells #[v2, v3] 84 (0, 0))
  r : w.heap[Br]? = some (.cells #[.slice none 0 0, .slice none 0 0] 84 (0, 0))
  a : w.heap[Ba]? = some (.cells #[.slice (some ⟨blk, 0, none⟩) n n] 107 (0, 0))
  k : w.heap[blk]? = some (.cells (atC n i) 3 (0, 0))
  bel : Below W.heap.size W w
theorem S1.start (W : World) (n : Nat) (v2 v3 : Value) : S1 W W.heap.size (W.heap.size + 1) (W.heap.size + 1 + 1 + 1) (W.heap.size + 1 + 1) n v2 v3 0
    ((((W.alloc (.cells #[v2, v3] 84)).alloc (.cells #[.slice none 0 0, .slice none 0 0] 84)).alloc (.cells (madeCells #[.int .i64 0] n) 3)).alloc (.cells #[.slice (some ⟨W.heap.size + 1 + 1, 0, none⟩) n n] 107)) := by
  have e1 : (W.alloc (.cells #[v2, v3] 84)).heap.size = W.heap.size + 1 := by simp
  have e2 : ((W.alloc (.cells #[v2, v3] 84)).alloc (.cells #[.slice none 0 0, .slice none 0 0] 84)).heap.size = W.heap.size + 1 + 1 := by simp
  have e3 : (((W.alloc (.cells #[v2, v3] 84)).alloc (.cells #[.slice none 0 0, .slice none 0 0] 84)).alloc (.cells (madeCells #[.int .i64 0] n) 3)).heap.size = W.heap.size + 1 + 1 + 1 := by simp
  refine ⟨Below.alloc_at (Below.alloc_at (Below.alloc_at (heap_alloc_new _ _))), ?_, ?_, ?_, below_alloc (below_alloc (below_alloc (below_alloc (Below.refl _ _) _) _) _) _⟩
  · have := heap_alloc_new (W.alloc (.cells #[v2, v3] 84)) (.cells #[.slice none 0 0, .slice none 0 0] 84)
    rw [e1] at this
    exact Below.alloc_at (Below.alloc_at this)
  · have := heap_alloc_new (((W.alloc (.cells #[v2, v3] 84)).alloc (.cells #[.slice none 0 0, .slice none 0 0] 84)).alloc (.cells (madeCells #[.int .i64 0] n) 3)) (.cells #[.slice (some ⟨W.heap.size + 1 + 1, 0, none⟩) n n] 107)
    rw [e3] at this
    exact this
  · have := heap_alloc_new ((W.alloc (.cells #[v2, v3] 84)).alloc (.cells #[.slice none 0 0, .slice none 0 0] 84)) (.cells (madeCells #[.int .i64 0] n) 3)
    rw [e2] at this
    rw [← atC_zero]
    exact Below.alloc_at this
section
variable {W w w' : World} {Bo Br Ba blk n : Nat} {v2 v3 : Value} {i : Nat}
theorem S1.drew (h : S1 W Bo Br Ba blk n v2 v3 i w) (q : Nat) : S1 W Bo Br Ba blk n v2 v3 i (w.drewN q) := ⟨h.o, h.r, h.a, h.k, pw_below_drewN h.bel q⟩
theorem S1.set (h : S1 W Bo Br Ba blk n v2 v3 i w) (hB : W.heap.size ≤ blk) (ho : Bo ≠ blk) (hr : Br ≠ blk) (ha : Ba ≠ blk) : S1 W Bo Br Ba blk n v2 v3 (i + 1) (w.setCell ⟨blk, i, none⟩ (.int .i64 (i : Int))) :=
  ⟨(Below.heap_setCell _ _ _ _ ho).trans h.o, (Below.heap_setCell _ _ _ _ hr).trans h.r, (Below.heap_setCell _ _ _ _ ha).trans h.a, by rw [← atC_set]; exact blk_set _ _ h.k, below_set h.bel hB⟩
end
theorem perm_lt {l : List Nat} {n i : Nat} (h : l.Perm (List.range n)) (hi : i < n) : l.getD i 0 < n := by
  have hl : l.length = n := by rw [h.length_eq, List.length_range]
  rw [List.getD_eq_getElem?_getD, List.getElem?_eq_getElem (by omega)]
  exact List.mem_range.1 (h.subset (List.getElem_mem (by omega)))
theorem take_map {β : Type} (f : Nat → β) {l : List Nat} {n i : Nat} (h : l.Perm (List.range n)) (hi : i < n) : (l.take i).map f ++ [f (l.getD i 0)] = (l.take (i + 1)).map f := by
  have hl : l.length = n := by rw [h.length_eq, List.length_range]
  rw [List.take_succ_eq_append_getElem (by omega), List.map_append, List.getD_eq_getElem?_getD, List.getElem?_eq_getElem (by omega)]
  rfl
/-- A cell that lies in the world that was. -/
def CellOf (W : World) (a : Addr) (v : Value) : Prop := W.cell? a = some v
theorem CellOf.at {W w : World} {a : Addr} {v : Value} (h : CellOf W a v) (hb : Below W.heap.size W w) : w.cell? a = some v := (hb.cell (World.block_lt_of_cell? W _ h)).trans h
theorem name_at {W : World} {ok : Nat → Prop} {A : Option Addr} {xs : List ByteArray} (h : Kd.F Kd.string W ok A xs.length xs) (k : Nat) (hk : k < xs.length) : ∃ ad : Addr, A = some ad ∧ CellOf W (ad.add k) (.string (nmAt xs k)) := by
  obtain ⟨ad, e, q0⟩ := Kd.at_string (Kd.F_now h) (k : Int) (by omega) (by omega)
  exact ⟨ad, e, q0⟩
theorem item_at {W : World} {ok : Nat → Prop} {A : Option Addr} {xs : List J} (h : Kd.F k25 W ok A xs.length xs) (k : Nat) (hk : k < xs.length) :
    ∃ ad B2 k2 B3 k3, A = some ad ∧ CellOf W (ad.add (k * 4)) (.int .i64 (rd_T25 xs k).f0) ∧ CellOf W ⟨(ad.add (k * 4)).block, (ad.add (k * 4)).off + 1, none⟩ (.string (rd_T25 xs k).f1) ∧ CellOf W ⟨(ad.add (k * 4)).block, (ad.add (k * 4)).off + 2, none⟩ (.slice B2 (rd_T25 xs k).f2.length k2) ∧ CellOf W ⟨(ad.add (k * 4)).block, (ad.add (k * 4)).off + 3, none⟩ (.slice B3 (rd_T25 xs k).f3.length k3) ∧
      ∀ w, Below W.heap.size W w → Kd.FK k25 w (fun j => ok j ∧ j < W.heap.size) (rd_T25 xs k) [.int .i64 (rd_T25 xs k).f0, .string (rd_T25 xs k).f1, .slice B2 (rd_T25 xs k).f2.length k2, .slice B3 (rd_T25 xs k).f3.length k3] := by
  obtain ⟨ad, c, e, _, hK, hc0, _⟩ := Kd.F_get h z25 (k : Int) (by omega) (by omega)
  have hc : ∀ j u, c[j]? = some u → W.cell? (ad.add (k * 4 + j)) = some u := hc0
  have hK' := hK
  obtain ⟨A2, c2, A3, c3, rfl, l2, g2, l3, g3⟩ := k25_openF hK
  exact ⟨ad, A2, c2, A3, c3, e, hc 0 _ rfl, by rw [← add_field _ _ 1 (by omega)]; exact hc 1 _ rfl, by rw [← add_field _ _ 2 (by omega)]; exact hc 2 _ rfl, by rw [← add_field _ _ 3 (by omega)]; exact hc 3 _ rfl, fun w hb => Foot.old hK' hb⟩
theorem SI.fin {W w : World} {Bo Br Ba blk Bp : Nat} {ok : Nat → Prop} {v2 v3 va : Value} {C : Array Value} {An Ai : Option Addr} {cn ci : Nat} {ln : List ByteArray} {li : List J} (h : SI W Bo Br Ba blk Bp ok v2 v3 va C (.slice An ln.length cn) (.slice Ai li.length ci) ln li w) (g : SGeo W.heap.size Bo Br Ba blk Bp) :
    Below W.heap.size W ((w.setCell ⟨Br, 0, none⟩ (.slice An ln.length cn)).setCell ⟨Br, 1, none⟩ (.slice Ai li.length ci)) ∧ ((w.setCell ⟨Br, 0, none⟩ (.slice An ln.length cn)).setCell ⟨Br, 1, none⟩ (.slice Ai li.length ci)).heap[Br]? = some (.cells #[.slice An ln.length cn, .slice Ai li.length ci] 84 (0, 0)) ∧ ln.length ≤ cn ∧ li.length ≤ ci ∧
      Kd.F Kd.string ((w.setCell ⟨Br, 0, none⟩ (.slice An ln.length cn)).setCell ⟨Br, 1, none⟩ (.slice Ai li.length ci)) (fun k => ok k ∨ W.heap.size ≤ k) An ln.length ln ∧ Kd.F k25 ((w.setCell ⟨Br, 0, none⟩ (.slice An ln.length cn)).setCell ⟨Br, 1, none⟩ (.slice Ai li.length ci)) (fun k => ok k ∨ W.heap.size ≤ k) Ai li.length li := by
  have hn := Kd.R_far (p := ⟨Br, 1, none⟩) (Kd.R_far (p := ⟨Br, 0, none⟩) h.names (fun _ hk => hk.2) (.slice An ln.length cn)) (fun _ hk => hk.2) (.slice Ai li.length ci)
  have far : ∀ k, okS W.heap.size Bp Br ok k ∧ some k ≠ (Value.slice An ln.length cn).ownBlock → k ≠ Br := fun k hk => by
    rcases hk.1 with ⟨_, h1⟩ | ⟨_, _, h1⟩
    · have := g.r; omega
    · exact h1
  have hi := Kd.N_far (p := ⟨Br, 1, none⟩) (Kd.N_far (p := ⟨Br, 0, none⟩) h.items far (.slice An ln.length cn)) far (.slice Ai li.length ci)
  refine ⟨below_set (below_set h.bel g.r) g.r, (blk_set 1 _ (blk_set 0 _ h.r)).trans rfl, (Kd.R_reads' h.names).2.1, (Kd.N_reads' h.items).2.1, Kd.F_mono (Kd.R_F (Kd.R_bound hn)) (fun k hk => Or.inr hk.2.1), Kd.F_mono (Kd.N_F hi) (fun k hk => ?_)⟩
  rcases hk.1 with ⟨h1, _⟩ | ⟨h1, _, _⟩
  · exact Or.inl h1
  · exact Or.inr h1
theorem names_at {W : World} {ok : Nat → Prop} {A : Option Addr} {xs : List ByteArray} (h : Kd.F Kd.string W ok A xs.length xs) : ∃ ad : Addr, (0 < xs.length → A = some ad ∧ ad.block < W.heap.size) ∧ ∀ k, k < xs.length → W.cell? (ad.add k) = some (.string (nmAt xs k)) := by
  by_cases h0 : 0 < xs.length
  · obtain ⟨ad, e, q0⟩ := Kd.at_string (Kd.F_now h) ((0 : Nat) : Int) (by omega) (by omega)
    have hb := World.block_lt_of_cell? W _ q0
    rw [add_block] at hb
    refine ⟨ad, fun _ => ⟨e, hb⟩, fun k hk => ?_⟩
    obtain ⟨ad', e', q⟩ := Kd.at_string (Kd.F_now h) (k : Int) (by omega) (by omega)
    obtain rfl := Option.some.inj (e.symm.trans e')
    exact q
  · exact ⟨⟨0, 0, none⟩, fun h => absurd h h0, fun k hk => absurd hk (by omega)⟩
/-- Behind the sort. -/
structure S2 (W : World) (Bo Br Ba blk : Nat) (ns : List ByteArray) (v2 v3 : Value) (l : List Nat) (C : Array Value) (w : World) : Prop where
  o : w.heap[Bo]? = some (.cells #[v2, v3] 84 (0, 0))
  r : w.heap[Br]? = some (.cells #[.slice none 0 0, .slice none 0 0] 84 (0, 0))
  a : w.heap[Ba]? = some (.cells #[.slice (some ⟨blk, 0, none⟩) ns.length ns.length] 107 (0, 0))
  k : w.heap[blk]? = some (.cells C 3 (0, 0))
  bel : Below W.heap.size W w
  row : ∀ k, k < ns.length → C[k]? = some (.int .i64 ((l.getD k 0 : Nat) : Int))
  perm : l.Perm (List.range ns.length)
  ord : ∀ i j, i < j → j < ns.length → ltN ns (l.getD j 0) (l.getD i 0) = false
theorem sort_S1 {W w : World} {ok : Nat → Prop} {Bo Br Ba blk n3 c2 c3 : Nat} {A2 A3 : Option Addr} {ns : List ByteArray} (hsz : ns.length ≤ 1000000) (hF : Kd.F Kd.string W ok A2 ns.length ns) (h : S1 W Bo Br Ba blk ns.length (.slice A2 ns.length c2) (.slice A3 n3 c3) ns.length w) (hB : W.heap.size ≤ blk) (ho : Bo ≠ blk) (hr : Br ≠ blk) (ha : Ba ≠ blk) :
    Calls Tryd.prog 77 #[.iface 107 (.slice (some ⟨blk, 0, none⟩) ns.length ns.length), .func (.func 78) #[] #[.pointer (some ⟨Bo, 0, none⟩), .pointer (some ⟨Ba, 0, none⟩)]] w fun e w' => e = .returned (.tuple #[]) ∧ ∃ l C, S2 W Bo Br Ba blk ns (.slice A2 ns.length c2) (.slice A3 n3 c3) l C w' := by
  obtain ⟨ad, h1, h2⟩ := names_at hF
  have hk := h.k
  rw [atC_full] at hk
  refine (sort_calls Bo Ba blk ns.length c2 c3 ad A2 A3 n3 ns w rfl hsz (fun h0 => (h1 h0).1) h.o h.a hk ho ha (fun k hk => ?_) (fun h0 => ?_)).mono ?_
  · have h3 := h2 k hk
    rw [h.bel.cell (World.block_lt_of_cell? W _ h3)]
    exact h3
  · have := (h1 h0).2
    omega
  · rintro e w' ⟨rfl, l, hl⟩
    obtain ⟨C, hC⟩ := hl.row
    have far : ∀ {b : Nat} {x : Obj}, b ≠ blk → w.heap[b]? = some x → w'.heap[b]? = some x := fun hne hx => (hl.keep.2 _ (lt_of_block hx) hne (by simp)).trans hx
    refine ⟨rfl, l, C, far ho h.o, far hr h.r, far ha h.a, hC, ⟨hl.os.trans h.bel.os, hl.tape.trans h.bel.tape, hl.output.trans h.bel.output, Nat.le_trans h.bel.size hl.keep.1, fun k hk => ?_⟩, fun k hk => ?_, hl.perm, hl.ord⟩
    · rw [hl.keep.2 k (by have := h.bel.size; omega) (by omega) (by simp)]
      exact h.bel.block k hk
    · rw [← blk_cell hC k]
      exact hl.cells k hk
theorem S2.drew {W w : World} {Bo Br Ba blk : Nat} {ns : List ByteArray} {v2 v3 : Value} {l : List Nat} {C : Array Value} (h : S2 W Bo Br Ba blk ns v2 v3 l C w) (q : Nat) : S2 W Bo Br Ba blk ns v2 v3 l C (w.drewN q) := ⟨h.o, h.r, h.a, h.k, pw_below_drewN h.bel q, h.row, h.perm, h.ord⟩
theorem S2.geo {W w : World} {Bo Br Ba blk : Nat} {ns : List ByteArray} {v2 v3 : Value} {l : List Nat} {C : Array Value} (h : S2 W Bo Br Ba blk ns v2 v3 l C w) (ho : W.heap.size ≤ Bo) (hr : W.heap.size ≤ Br) (ha : W.heap.size ≤ Ba) (hk : W.heap.size ≤ blk) : SGeo W.heap.size Bo Br Ba blk w.heap.size :=
  ⟨ho, hr, ha, hk, h.bel.size, Nat.ne_of_lt (lt_of_block h.o), Nat.ne_of_lt (lt_of_block h.r), Nat.ne_of_lt (lt_of_block h.a), Nat.ne_of_lt (lt_of_block h.k)⟩
theorem S2.start {W w : World} {Bo Br Ba blk : Nat} {ns : List ByteArray} {v2 v3 : Value} {l : List Nat} {C : Array Value} (h : S2 W Bo Br Ba blk ns v2 v3 l C w) (ok : Nat → Prop) :
    SI W Bo Br Ba blk w.heap.size ok v2 v3 (.slice (some ⟨blk, 0, none⟩) ns.length ns.length) C (.slice none 0 0) (.slice none 0 0) [] [] (w.alloc (.cells #[.slice none 0 0, .slice none 0 0] 84)) :=
  ⟨Below.alloc_at h.o, Below.alloc_at h.r, Below.alloc_at h.a, Below.alloc_at h.k, heap_alloc_new _ _, Kd.R_nil _ _ _ _ _, Kd.N_nil _ _ _ _ _, below_alloc h.bel _⟩
set_option maxRecDepth 1000000 in
set_option maxHeartbeats 4000000 in
theorem sorted_calls : SortedOK := by
  intro W ok A2 A3 c2 c3 ns ys hny hlen hF2 hc2 hF3 hc3
  have hmk := print_make_of (P := Tryd.prog) 107 3 (.int .i64 0) 8 Tryd.underlying107 (by kernel_rfl) rfl (by decide) ns.length (by omega)
  have HST := Aside0.mk (S1.start W ns.length (.slice A2 ns.length c2) (.slice A3 ys.length c3))
  have HF2 := Aside0.mk hF2
  have HF3 := Aside0.mk hF3
  have HNY := Aside0.mk hny
  clear hF2 hF3 hny
  go_enter Tryd.func54, Tryd.ntmps54
  go_wp2
  clear hmk
  go_loopg [14] (ns.length + 1) (fun g v14 wr => ∃ (i : Nat), v14 = .int .i64 (i : Int) ∧ i ≤ ns.length ∧ ns.length + 1 ≤ i + g ∧ Aside0 (S1 W W.heap.size (W.heap.size + 1) (W.heap.size + 1 + 1 + 1) (W.heap.size + 1 + 1) ns.length (.slice A2 ns.length c2) (.slice A3 ys.length c3) i wr))
  case atStart => exact ⟨0, rfl, by omega, by omega, HST⟩
  case round =>
    obtain ⟨i, rfl, hi, hg, HS⟩ := hrel
    clear HST
    have ca := (blk_cell HS.out.a 0).trans rfl
    have hsz := lt_of_block HS.out.k
    by_cases hlt : i < ns.length
    · cases gk with
      | zero => omega
      | succ g =>
        have p1 : (0 ≤ (i : Int)) = True := eq_true (by omega)
        have p2 : ((i : Int) < (ns.length : Int)) = True := eq_true (by omega)
        have hwn := wrap_next i ns.length hlt (by omega)
        have HWN := Aside0.mk hwn
        have ck : wr.cell? ⟨W.heap.size + 1 + 1, i, none⟩ = some (.int .i64 0) := (blk_cell HS.out.k i).trans (by simp [atC, hlt])
        have fk := blk_frozen HS.out.k i
        go_wp2
        go_roundg g
        case measure => omega
        case rel => exact ⟨i + 1, (by first | exact congrArg (Value.int .i64) HWN.out | exact congrArg (Value.int .i64) (show (i : Int) + 1 = ((i + 1 : Nat) : Int) by omega)), by omega, by omega, ⟨by repeat (first | exact HS.out | apply S1.drew | (refine S1.set ?_ (by omega) (by omega) (by omega) (by omega)))⟩⟩
    · have p2 : ((i : Int) < (ns.length : Int)) = False := eq_false (by omega)
      obtain rfl : i = ns.length := by omega
      have HF4 := Aside0.mk (show Kd.F Kd.string W ok A2 ns.length ns from HF2.out)
      go_wp2_with (go_at_call 77; (with_reducible refine (sort_S1 hlen HF4.out (by repeat (first | exact HS.out | apply S1.drew)) (by omega) (by omega) (by omega) (by omega)).mono ?_); rintro e w1 ⟨rfl, l, C, hs⟩; have HT := Aside0.mk hs; clear hs; have ca : (w1.alloc (Obj.cells #[.slice none 0 0, .slice none 0 0] 84)).cell? ⟨W.heap.size + 1 + 1 + 1, 0, none⟩ = some (.slice (some ⟨W.heap.size + 1 + 1, 0, none⟩) ns.length ns.length) := (blk_cell (Below.alloc_at HT.out.a) 0).trans rfl)
      have HG := Aside0.mk (HT.out.geo (by omega) (by omega) (by omega) (by omega))
      have HP := Aside0.mk HT.out.perm
      have HO := Aside0.mk HT.out.ord
      have HC := Aside0.mk HT.out.row
      have HSI := Aside0.mk (HT.out.start ok)
      have HB1 := Aside0.mk (HT.out.bel.size)
      clear ca HT HS hg hi p2 hsz HF4
      generalize w1.heap.size = Bp at HG HSI HB1 ⊢
      generalize w1.alloc _ = wA at HSI ⊢
      go_loopg [28] (ns.length + 1) (fun g v28 wr => ∃ (i : Nat) (sn sv : Value), v28 = .int .i64 (i : Int) ∧ i ≤ ns.length ∧ ns.length + 1 ≤ i + g ∧ Aside0 (SI W W.heap.size (W.heap.size + 1) (W.heap.size + 1 + 1 + 1) (W.heap.size + 1 + 1) Bp ok (.slice A2 ns.length c2) (.slice A3 ys.length c3) (.slice (some ⟨W.heap.size + 1 + 1, 0, none⟩) ns.length ns.length) C sn sv ((l.take i).map (fun k => nmAt ns k)) ((l.take i).map (fun k : Nat => rd_T25 ys (k : Int))) wr))
      case atStart => exact ⟨0, _, _, rfl, by omega, by omega, by rw [List.take_zero]; exact HSI⟩
      case round =>
        obtain ⟨i, sn, sv, rfl, hi, hg, HS⟩ := hrel
        clear HSI
        by_cases hlt : i < ns.length
        · cases gk with
          | zero => omega
          | succ g =>
            have p1 : (0 ≤ (i : Int)) = True := eq_true (by omega)
            have p2 : ((i : Int) < (ns.length : Int)) = True := eq_true (by omega)
            have hwn := wrap_next i ns.length hlt (by omega)
            have HWN := Aside0.mk hwn
            have ck : wr.cell? ⟨W.heap.size + 1 + 1, i, none⟩ = some (.int .i64 ((l.getD i 0 : Nat) : Int)) := (blk_cell HS.out.k i).trans (HC.out i hlt)
            have HRW := Aside0.mk (HC.out i hlt)
            clear hwn
            obtain ⟨k, hk⟩ : ∃ k, k = l.getD i 0 := ⟨_, rfl⟩
            have hkn : k < ns.length := by rw [hk]; exact perm_lt HP.out hlt
            have HLN := Aside0.mk (take_map (fun k => nmAt ns k) HP.out hlt)
            have HLI := Aside0.mk (take_map (fun k : Nat => rd_T25 ys (k : Int)) HP.out hlt)
            rw [← hk] at ck
            rw [← hk] at HLN HLI
            have HK := Aside0.mk hk
            clear hk HRW
            have HL1 := Aside0.mk (show ((l.take i).map (fun k => nmAt ns k)).length ≤ 1000000 by rw [List.length_map, List.length_take]; omega)
            have HL2 := Aside0.mk (show ((l.take i).map (fun k : Nat => rd_T25 ys (k : Int))).length ≤ 1000000 by rw [List.length_map, List.length_take]; omega)
            generalize (l.take i).map (fun k => nmAt ns k) = ln at HS HLN HL1
            generalize (l.take i).map (fun k : Nat => rd_T25 ys (k : Int)) = li at HS HLI HL2
            obtain ⟨An, cn, en⟩ := Kd.R_slice HS.out.names
            subst en
            obtain ⟨Ai, ci, ei⟩ := Kd.N_slice HS.out.items
            subst ei
            obtain ⟨ad, e8, hnk⟩ := name_at HF2.out k hkn
            subst e8
            have HNK := Aside0.mk hnk
            clear hnk
            have p3 : (0 ≤ (k : Int)) = True := eq_true (by omega)
            have p4 : ((k : Int) < (ns.length : Int)) = True := eq_true (by omega)
            go_wp2
            refine start_ (n := 11) (S := fun w' => w'.cell? ⟨Bp, 0, none⟩ = some (.slice An ln.length cn) ∧ w'.cell? ⟨W.heap.size, 0, none⟩ = some (.slice (some ad) ns.length c2) ∧ w'.cell? (ad.add k) = some (.string (nmAt ns k))) (ds := [10]) #[false, false, false, false, false, false, false, false, false, false, false] (by kernel_rfl) rfl rfl ⟨(blk_cell HS.out.p 0).trans rfl, (blk_cell HS.out.o 0).trans rfl, HNK.out.at (pw_below_drewN HS.out.bel 1)⟩ (fun hHeld => ?_)
            have HS2 := Aside0.mk (HS.out.below (show Below wr.heap.size wr wr.drew from pw_below_drewN (Below.refl _ _) 1))
            generalize wr.drew = w2 at HS2 hHeld ⊢
            refine pure_ (i := 0) (N := some 32) (v := ?_) (a' := ?_) #[true, false, false, false, false, false, false, false, false, false, false] rfl rfl (by kernel_rfl) (fun _ _ _ h => h) (Or.inl ⟨by rfl, ?_⟩) ?_ ?_
            rotate_left
            · intro w'
              go_simp
              with_reducible rfl
            rotate_left
            · simp only [Act.put, List.setIfInBounds_toArray, List.set_cons_zero, List.set_cons_succ, i64_w, i32_w]
              rfl
            refine pure_ (i := 2) (N := some 34) (v := ?_) (a' := ?_) #[true, false, true, false, false, false, false, false, false, false, false] rfl rfl (by kernel_rfl) (fun _ _ _ h => h) (Or.inl ⟨by rfl, ?_⟩) ?_ ?_
            rotate_left
            · intro w'
              go_simp
              with_reducible rfl
            rotate_left
            · simp only [Act.put, List.setIfInBounds_toArray, List.set_cons_zero, List.set_cons_succ, i64_w, i32_w]
              rfl
            refine pure_ (i := 4) (N := some 36) (v := ?_) (a' := ?_) #[true, false, true, false, true, false, false, false, false, false, false] rfl rfl (by kernel_rfl) (fun _ _ _ h => h) (Or.inl ⟨by rfl, ?_⟩) ?_ ?_
            rotate_left
            · intro w'
              go_simp
              with_reducible rfl
            rotate_left
            · simp only [Act.put, List.setIfInBounds_toArray, List.set_cons_zero, List.set_cons_succ, i64_w, i32_w]
              rfl
            refine take_ (i := 1) (N := some 33) (v := ?_) (a' := ?_) #[true, true, true, false, true, false, false, false, false, false, false] rfl rfl (by kernel_rfl) (fun _ _ _ h => h) (Or.inl ⟨by rfl, ?_⟩) hHeld ?_ ?_
            rotate_left
            · rintro w' ⟨s0, s1, s2⟩
              go_simp
              with_reducible rfl
            rotate_left
            · simp only [Act.put, List.setIfInBounds_toArray, List.set_cons_zero, List.set_cons_succ, i64_w, i32_w]
              rfl
            refine take_ (i := 3) (N := some 35) (v := ?_) (a' := ?_) #[true, true, true, true, true, false, false, false, false, false, false] rfl rfl (by kernel_rfl) (fun _ _ _ h => h) (Or.inl ⟨by rfl, ?_⟩) hHeld ?_ ?_
            rotate_left
            · rintro w' ⟨s0, s1, s2⟩
              go_simp
              with_reducible rfl
            rotate_left
            · simp only [Act.put, List.setIfInBounds_toArray, List.set_cons_zero, List.set_cons_succ, i64_w, i32_w]
              rfl
            refine pure_ (i := 5) (N := some 37) (v := ?_) (a' := ?_) #[true, true, true, true, true, true, false, false, false, false, false] rfl rfl (by kernel_rfl) (fun _ _ _ h => h) (Or.inl ⟨by rfl, ?_⟩) ?_ ?_
            rotate_left
            · intro w'
              go_simp
              with_reducible rfl
            rotate_left
            · simp only [Act.put, List.setIfInBounds_toArray, List.set_cons_zero, List.set_cons_succ, i64_w, i32_w]
              rfl
            refine take_ (i := 6) (N := some 38) (v := ?_) (a' := ?_) #[true, true, true, true, true, true, true, false, false, false, false] rfl rfl (by kernel_rfl) (fun _ _ _ h => h) (Or.inl ⟨by rfl, ?_⟩) hHeld ?_ ?_
            rotate_left
            · rintro w' ⟨s0, s1, s2⟩
              go_simp
              with_reducible rfl
            rotate_left
            · simp only [Act.put, List.setIfInBounds_toArray, List.set_cons_zero, List.set_cons_succ, i64_w, i32_w]
              rfl
            refine one_ (i := 7) (N := some 39) #[true, true, true, true, true, true, true, true, false, false, false] rfl rfl (by kernel_rfl) (by decide) (fun K hK => ?_)
            refine value_ (w1 := ?_) (v := ?_) (by rfl) rfl ?_ ?_
            rotate_left 2
            · go_simp
              constructor
              · rfl
              · rfl
            refine hK.out _ _ ⟨(blk_cell (blk_alloc HS2.out.p _) 0).trans rfl, (blk_cell (blk_alloc HS2.out.o _) 0).trans rfl, HNK.out.at (below_alloc HS2.out.bel _)⟩ (fun hHeld => ?_)
            clear hK K
            refine norm_ (a' := ?_) ?_ ?_
            rotate_left
            · show Act.put _ (some 39) _ = _
              simp only [Act.put, List.setIfInBounds_toArray, List.set_cons_zero, List.set_cons_succ, i64_w, i32_w]
              rfl
            refine one_ (i := 8) (N := some 40) #[true, true, true, true, true, true, true, true, true, false, false] rfl rfl (by kernel_rfl) (by decide) (fun K hK => ?_)
            refine Kd.R_append_step Kd.string (w0 := W) W.heap.size (by rfl) (.tmp 33) (.tmp 39) 22 9 (.string ⟨#[]⟩) 16 rfl Tryd.underlying22 info9 rfl (by decide) (by omega) (.slice An ln.length cn) ln (nmAt ns k) [.string (nmAt ns k)] (fun k_ => k_ ≠ Bp ∧ k_ ≠ W.heap.size + 1) (fun _ => False) rfl rfl ?aP (fun _ hk => hk.elim) ?aF ?aO ?aB ?aS ?aL ?_
            (case aP => exact rfl)
            (case aF => exact (fun k_ hk => ⟨by have := lt_of_block HS2.out.p; omega, by have := lt_of_block HS2.out.r; omega⟩))
            (case aO => exact HS2.out.names)
            (case aB => exact HS2.out.bel)
            (case aS => exact HS2.out.ltB)
            (case aL => have := HL1.out; omega)
            intro v1 w6 ho hb hg hat
            obtain ⟨A1, c1, e1⟩ := Kd.R_slice ho
            subst e1
            have b1 := Aside0.mk (blk_grown HS2.out.p hg (Kd.R_ne HS2.out.names HS2.out.p (by decide)))
            have b2 := Aside0.mk (blk_grown HS2.out.o hg (Kd.R_ne HS2.out.names HS2.out.o (by decide)))
            have hs3 := HS2.out.name HG.out ho hb hg hat
            rw [List.length_append, List.length_singleton] at hs3
            have HS3 := Aside0.mk hs3
            clear hs3
            have HB6 := Aside0.mk hb
            have x3 := (blk_cell b1.out 0).trans rfl
            have xf := blk_frozen b1.out 0
            clear ho hb hg hat
            refine hK.out _ _ ⟨(blk_cell b1.out 0).trans rfl, (blk_cell b2.out 0).trans rfl, HNK.out.at HB6.out⟩ (fun hHeld => ?_)
            clear hK K
            refine norm_ (a' := ?_) ?_ ?_
            rotate_left
            · show Act.put _ (some 40) _ = _
              simp only [Act.put, List.setIfInBounds_toArray, List.set_cons_zero, List.set_cons_succ, i64_w, i32_w]
              rfl
            refine pure_ (i := 9) (N := some 41) (v := ?_) (a' := ?_) #[true, true, true, true, true, true, true, true, true, true, false] rfl rfl (by kernel_rfl) (fun _ _ _ h => h) (Or.inl ⟨by rfl, ?_⟩) ?_ ?_
            rotate_left
            · intro w'
              go_simp
              with_reducible rfl
            rotate_left
            · simp only [Act.put, List.setIfInBounds_toArray, List.set_cons_zero, List.set_cons_succ, i64_w, i32_w]
              rfl
            refine last_ (i := 10) (N := none) #[true, true, true, true, true, true, true, true, true, true, true] rfl rfl (by kernel_rfl) (by decide) (fun K hK => ?_)
            refine skip_ (w1 := ?_) (by rfl) rfl ?_ ?_
            rotate_left
            · go_simp
              rfl
            refine hK.out _ _ ?_
            clear hK K
            refine done_ (by kernel_rfl) ?_
            try go_wp2
            generalize w6.setCell _ _ = w7 at HS3 ⊢
            clear HS HS2 HB6 b1 b2 x3 xf HNK hHeld HL1
            have HS := HS3
            clear HS3
            obtain ⟨ad3, B2, k2, B3, k3, e9, q0, q1, q2, q3, hfk⟩ := item_at HF3.out k (by have := HNY.out; omega)
            subst e9
            have HQ0 := Aside0.mk q0
            have HQ1 := Aside0.mk q1
            have HQ2 := Aside0.mk q2
            have HQ3 := Aside0.mk q3
            have HFK := Aside0.mk hfk
            clear q0 q1 q2 q3 hfk
            have p5 : ((k : Int) < (ys.length : Int)) = True := eq_true (by have := HNY.out; omega)
            refine start_ (n := 11) (S := fun w' => w'.cell? ⟨Bp, 1, none⟩ = some (.slice Ai li.length ci) ∧ w'.cell? ⟨W.heap.size, 1, none⟩ = some (.slice (some ad3) ys.length c3) ∧ w'.cell? (ad3.add (k * 4)) = some (.int .i64 (rd_T25 ys k).f0) ∧ w'.cell? ⟨(ad3.add (k * 4)).block, (ad3.add (k * 4)).off + 1, none⟩ = some (.string (rd_T25 ys k).f1) ∧ w'.cell? ⟨(ad3.add (k * 4)).block, (ad3.add (k * 4)).off + 2, none⟩ = some (.slice B2 (rd_T25 ys k).f2.length k2) ∧ w'.cell? ⟨(ad3.add (k * 4)).block, (ad3.add (k * 4)).off + 3, none⟩ = some (.slice B3 (rd_T25 ys k).f3.length k3)) (ds := [10]) #[false, false, false, false, false, false, false, false, false, false, false] (by kernel_rfl) rfl rfl ⟨(blk_cell HS.out.p 1).trans rfl, (blk_cell HS.out.o 1).trans rfl, HQ0.out.at (pw_below_drewN HS.out.bel 1), HQ1.out.at (pw_below_drewN HS.out.bel 1), HQ2.out.at (pw_below_drewN HS.out.bel 1), HQ3.out.at (pw_below_drewN HS.out.bel 1)⟩ (fun hHeld => ?_)
            have HS2 := Aside0.mk (HS.out.below (show Below w7.heap.size w7 w7.drew from pw_below_drewN (Below.refl _ _) 1))
            generalize w7.drew = w8 at HS2 hHeld ⊢
            refine pure_ (i := 0) (N := some 42) (v := ?_) (a' := ?_) #[true, false, false, false, false, false, false, false, false, false, false] rfl rfl (by kernel_rfl) (fun _ _ _ h => h) (Or.inl ⟨by rfl, ?_⟩) ?_ ?_
            rotate_left
            · intro w'
              go_simp
              with_reducible rfl
            rotate_left
            · simp only [Act.put, List.setIfInBounds_toArray, List.set_cons_zero, List.set_cons_succ, i64_w, i32_w]
              rfl
            refine pure_ (i := 2) (N := some 44) (v := ?_) (a' := ?_) #[true, false, true, false, false, false, false, false, false, false, false] rfl rfl (by kernel_rfl) (fun _ _ _ h => h) (Or.inl ⟨by rfl, ?_⟩) ?_ ?_
            rotate_left
            · intro w'
              go_simp
              with_reducible rfl
            rotate_left
            · simp only [Act.put, List.setIfInBounds_toArray, List.set_cons_zero, List.set_cons_succ, i64_w, i32_w]
              rfl
            refine pure_ (i := 4) (N := some 46) (v := ?_) (a' := ?_) #[true, false, true, false, true, false, false, false, false, false, false] rfl rfl (by kernel_rfl) (fun _ _ _ h => h) (Or.inl ⟨by rfl, ?_⟩) ?_ ?_
            rotate_left
            · intro w'
              go_simp
              with_reducible rfl
            rotate_left
            · simp only [Act.put, List.setIfInBounds_toArray, List.set_cons_zero, List.set_cons_succ, i64_w, i32_w]
              rfl
            refine take_ (i := 1) (N := some 43) (v := ?_) (a' := ?_) #[true, true, true, false, true, false, false, false, false, false, false] rfl rfl (by kernel_rfl) (fun _ _ _ h => h) (Or.inl ⟨by rfl, ?_⟩) hHeld ?_ ?_
            rotate_left
            · rintro w' ⟨s0, s1, s2, s3, s4, s5⟩
              go_simp
              with_reducible rfl
            rotate_left
            · simp only [Act.put, List.setIfInBounds_toArray, List.set_cons_zero, List.set_cons_succ, i64_w, i32_w]
              rfl
            refine take_ (i := 3) (N := some 45) (v := ?_) (a' := ?_) #[true, true, true, true, true, false, false, false, false, false, false] rfl rfl (by kernel_rfl) (fun _ _ _ h => h) (Or.inl ⟨by rfl, ?_⟩) hHeld ?_ ?_
            rotate_left
            · rintro w' ⟨s0, s1, s2, s3, s4, s5⟩
              go_simp
              with_reducible rfl
            rotate_left
            · simp only [Act.put, List.setIfInBounds_toArray, List.set_cons_zero, List.set_cons_succ, i64_w, i32_w]
              rfl
            refine pure_ (i := 5) (N := some 47) (v := ?_) (a' := ?_) #[true, true, true, true, true, true, false, false, false, false, false] rfl rfl (by kernel_rfl) (fun _ _ _ h => h) (Or.inl ⟨by rfl, ?_⟩) ?_ ?_
            rotate_left
            · intro w'
              go_simp
              with_reducible rfl
            rotate_left
            · simp only [Act.put, List.setIfInBounds_toArray, List.set_cons_zero, List.set_cons_succ, i64_w, i32_w]
              rfl
            refine take_ (i := 6) (N := some 48) (v := ?_) (a' := ?_) #[true, true, true, true, true, true, true, false, false, false, false] rfl rfl (by kernel_rfl) (fun _ _ _ h => h) (Or.inl ⟨by rfl, ?_⟩) hHeld ?_ ?_
            rotate_left
            · rintro w' ⟨s0, s1, s2, s3, s4, s5⟩
              go_simp
              with_reducible rfl
            rotate_left
            · simp only [Act.put, List.setIfInBounds_toArray, List.set_cons_zero, List.set_cons_succ, i64_w, i32_w]
              rfl
            refine one_ (i := 7) (N := some 49) #[true, true, true, true, true, true, true, true, false, false, false] rfl rfl (by kernel_rfl) (by decide) (fun K hK => ?_)
            refine value_ (w1 := ?_) (v := ?_) (by rfl) rfl ?_ ?_
            rotate_left 2
            · go_simp
              constructor
              · rfl
              · rfl
            refine hK.out _ _ ⟨(blk_cell (blk_alloc HS2.out.p _) 1).trans rfl, (blk_cell (blk_alloc HS2.out.o _) 1).trans rfl, HQ0.out.at (below_alloc HS2.out.bel _), HQ1.out.at (below_alloc HS2.out.bel _), HQ2.out.at (below_alloc HS2.out.bel _), HQ3.out.at (below_alloc HS2.out.bel _)⟩ (fun hHeld => ?_)
            clear hK K
            refine norm_ (a' := ?_) ?_ ?_
            rotate_left
            · show Act.put _ (some 49) _ = _
              simp only [Act.put, List.setIfInBounds_toArray, List.set_cons_zero, List.set_cons_succ, i64_w, i32_w]
              rfl
            refine one_ (i := 8) (N := some 50) #[true, true, true, true, true, true, true, true, true, false, false] rfl rfl (by kernel_rfl) (by decide) (fun K hK => ?_)
            refine Kd.N_append_step k25 (w0 := W) W.heap.size (by rfl) (.tmp 43) (.tmp 49) 23 25 (.agg #[(.int .i64 0), (.string ⟨#[]⟩), (.slice none 0 0), (.slice none 0 0)]) 72 rfl Tryd.underlying23 info25 rfl (by decide) (by omega) (.slice Ai li.length ci) li (rd_T25 ys k) [.int .i64 (rd_T25 ys k).f0, .string (rd_T25 ys k).f1, .slice B2 (rd_T25 ys k).f2.length k2, .slice B3 (rd_T25 ys k).f3.length k3] (fun k_ => okS W.heap.size Bp (W.heap.size + 1) ok k_ ∧ some k_ ≠ (Value.slice A1 (ln.length + 1) c1).ownBlock) (fun k_ => ok k_ ∧ k_ < W.heap.size) rfl rfl ?aP ?aK ?aF ?aO ?aB ?aS ?aL ?_
            (case aP => exact HFK.out _ HS2.out.bel)
            (case aK => exact (fun k_ hk => ⟨⟨Or.inl hk, fun he => by have := Kd.R_base HS2.out.names k_ he.symm; have := hk.2; omega⟩, fun he => by have := Kd.N_base HS2.out.items k_ he.symm; have := hk.2; omega⟩))
            (case aF => exact (fun k_ hk => ⟨Or.inr ⟨by have := HS2.out.ltB; omega, by have := lt_of_block HS2.out.p; omega, by have := lt_of_block HS2.out.r; omega⟩, fun he => by have := Kd.R_lt HS2.out.names k_ he.symm; omega⟩))
            (case aO => exact HS2.out.items)
            (case aB => exact HS2.out.bel)
            (case aS => exact HS2.out.ltB)
            (case aL => have := HL2.out; omega)
            intro v2 w9 ho hb hg hat
            obtain ⟨A4, c4, e4⟩ := Kd.N_slice ho
            subst e4
            have b1 := Aside0.mk (blk_grown HS2.out.p hg (Kd.N_ne HS2.out.items HS2.out.p (by decide)))
            have b2 := Aside0.mk (blk_grown HS2.out.o hg (Kd.N_ne HS2.out.items HS2.out.o (by decide)))
            have hs3 := HS2.out.item HG.out ho hb hg
            rw [List.length_append, List.length_singleton] at hs3
            have HS3 := Aside0.mk hs3
            clear hs3
            have HB6 := Aside0.mk hb
            have x3 := (blk_cell b1.out 1).trans rfl
            have xf := blk_frozen b1.out 1
            clear ho hb hg hat
            refine hK.out _ _ ⟨(blk_cell b1.out 1).trans rfl, (blk_cell b2.out 1).trans rfl, HQ0.out.at HB6.out, HQ1.out.at HB6.out, HQ2.out.at HB6.out, HQ3.out.at HB6.out⟩ (fun hHeld => ?_)
            clear hK K
            refine norm_ (a' := ?_) ?_ ?_
            rotate_left
            · show Act.put _ (some 50) _ = _
              simp only [Act.put, List.setIfInBounds_toArray, List.set_cons_zero, List.set_cons_succ, i64_w, i32_w]
              rfl
            refine pure_ (i := 9) (N := some 51) (v := ?_) (a' := ?_) #[true, true, true, true, true, true, true, true, true, true, false] rfl rfl (by kernel_rfl) (fun _ _ _ h => h) (Or.inl ⟨by rfl, ?_⟩) ?_ ?_
            rotate_left
            · intro w'
              go_simp
              with_reducible rfl
            rotate_left
            · simp only [Act.put, List.setIfInBounds_toArray, List.set_cons_zero, List.set_cons_succ, i64_w, i32_w]
              rfl
            refine last_ (i := 10) (N := none) #[true, true, true, true, true, true, true, true, true, true, true] rfl rfl (by kernel_rfl) (by decide) (fun K hK => ?_)
            refine skip_ (w1 := ?_) (by rfl) rfl ?_ ?_
            rotate_left
            · go_simp
              rfl
            refine hK.out _ _ ?_
            clear hK K
            refine done_ (by kernel_rfl) ?_
            try go_wp2
            go_roundg g
            case measure => omega
            case rel => exact ⟨i + 1, _, _, (by first | exact congrArg (Value.int .i64) HWN.out | exact congrArg (Value.int .i64) (show (i : Int) + 1 = ((i + 1 : Nat) : Int) by omega)), by omega, by omega, ⟨by rw [← HLN.out, ← HLI.out]; exact HS3.out⟩⟩
        · have p2 : ((i : Int) < (ns.length : Int)) = False := eq_false (by omega)
          have hl : l.length = ns.length := by rw [HP.out.length_eq, List.length_range]
          have HLL := Aside0.mk (sorted_lists HNY.out HP.out HO.out)
          have HLE := Aside0.mk (show (l.map (fun k => nmAt ns k)).length = (l.map (fun k : Nat => rd_T25 ys (k : Int))).length by simp)
          have e0 : l.take i = l := List.take_of_length_le (by omega)
          rw [e0] at HS
          clear e0 hl HP HO HC
          generalize l.map (fun k => nmAt ns k) = ln at HS HLL HLE
          generalize l.map (fun k : Nat => rd_T25 ys (k : Int)) = li at HS HLL HLE
          obtain ⟨An, cn, en⟩ := Kd.R_slice HS.out.names
          subst en
          obtain ⟨Ai, ci, ei⟩ := Kd.N_slice HS.out.items
          subst ei
          have x0 := (blk_cell HS.out.p 0).trans rfl
          have x1 := (blk_cell HS.out.p 1).trans rfl
          have x2 := (blk_cell HS.out.r 0).trans rfl
          have x3 := (blk_cell HS.out.r 1).trans rfl
          have x4 := blk_frozen HS.out.r 0
          have x5 := blk_frozen HS.out.r 1
          have HE := Aside0.mk (HS.out.fin HG.out)
          go_wp2
          refine bodyPost_ret (results_cell_row rfl _ _ (W.heap.size + 1) 84 #[.slice An ln.length cn, .slice Ai li.length ci] (0, 0) _ rfl HE.out.2.1 Tryd.underlying84 rfl (by kernel_rfl)) rfl ?_
          exact ⟨An, Ai, cn, ci, ln, li, rfl, HE.out.1, HLE.out, HE.out.2.2.1, HE.out.2.2.2.1, HLL.out.1, HLL.out.2, HE.out.2.2.2.2.1, HE.out.2.2.2.2.2⟩
end Go.Proofs.YtaalajhmfdcalaaDoor.X
namespace Go.Proofs.YtaalajhmfdcalaaDoor.X
open Go.RowKit Go.Lib Go.Proofs.YtaalajhmfdcalaaDoorW.PrintWords Go.Proofs.YtaalajhmfdcalaaDoorW.PrintLast Go.Proofs.YtaalajhmfdcalaaDoorW.PrintMore
theorem Sm.ok {canon : Bool} {a b : St} (h : Sm canon a b) (hb : b.e = 0) : a = b := by
  rcases h with h | ⟨_, _, h⟩
  · exact h
  · exact absurd hb h
theorem Sm.e_iff {canon : Bool} {a b : St} (h : Sm canon a b) : a.e = 0 ↔ b.e = 0 := by
  rcases h with h | ⟨_, h1, h2⟩
  · rw [h]
  · exact ⟨fun h => absurd h h1, fun h => absurd h h2⟩
theorem wr_at {Wd : Nat} {free : Bool} {W : World} (h : W.heap[Wd]? = some (.cells #[.slice none 0 0, .bool free, .int .i64 0] 60 (0, 0))) : Wr Wd free ⟨[], 0⟩ (.slice none 0 0) W :=
  ⟨h, Own.nil _ _ (by have := lt_of_block h; omega)⟩
/-- value at a new writer. -/
theorem writer_val {free canon : Bool} {v : J} {A2 A3 : Option Addr} {c2 c3 Wd : Nat} {W w : World} (hsm : SmJ 32 v) (hln : canon = true → LnJ 32 v) (hfit : Fit free ⟨[], 0⟩ (wtJ 32 v)) (hC2 : Kd.string.C W A2 v.f2.length v.f2) (hc2 : v.f2.length ≤ c2) (hC3 : k25.C W A3 v.f3.length v.f3) (hc3 : v.f3.length ≤ c3) (hG : GLw W) (hT : Tabs W)
    (hb : Below W.heap.size W w) (hWd : W.heap.size ≤ Wd) (hw : w.heap[Wd]? = some (.cells #[.slice none 0 0, .bool free, .int .i64 0] 60 (0, 0))) :
    Calls Tryd.prog 33 #[ptr Wd, jVal v.f0 v.f1 A2 A3 v.f2.length c2 v.f3.length c3, .int .i64 0, .bool canon] w (VEnds Wd free canon ⟨[], 0⟩ (.slice none 0 0) w (wtJ 32 v) (valW free canon 32 v ⟨[], 0⟩)) := by
  have hvo := wvalue_ok free canon (fun _ => sorted_calls) 32 (Nat.le_refl _)
  rw [show (32 : Int) - ((32 : Nat) : Int) = 0 by decide] at hvo
  exact hvo Wd ⟨[], 0⟩ (.slice none 0 0) w v A2 A3 c2 c3 (wr_at hw) hfit hsm hln
    (Kd.F_mono (Kd.F_below (Kd.C_F Kd.heap_string hC2) hb) (fun k hk => ⟨by omega, by simp [Value.ownBlock]⟩)) hc2
    (Kd.F_mono (Kd.F_below (Kd.C_F heap25 hC3) hb) (fun k hk => ⟨by omega, by simp [Value.ownBlock]⟩)) hc3
    (fun W' hb2 => have hb' : Below W.heap.size W W' := hb.trans (hb2.mono hWd); ⟨hG.below hb', hT.bel hb'⟩)
def canonS (v : J) : St := valW false true 32 v ⟨[], 0⟩
def canonB (v : J) : ByteArray := if (printS v).e = 0 then bs (canonS v).out else ⟨#[]⟩
set_option maxRecDepth 1000000 in
set_option maxHeartbeats 4000000 in
theorem canon_calls (f0 : Int) (f1 : ByteArray) (l2 : List ByteArray) (l3 : List J) (A2 A3 : Option Addr) (c2 c3 : Nat) (W : World) (hsm : SmJ 32 ⟨f0, f1, l2, l3⟩) (hln : LnJ 32 ⟨f0, f1, l2, l3⟩) (hce : (printS ⟨f0, f1, l2, l3⟩).e = 0 → (canonS ⟨f0, f1, l2, l3⟩).e = 0) (hC2 : Kd.string.C W A2 l2.length l2) (hc2 : l2.length ≤ c2) (hC3 : k25.C W A3 l3.length l3) (hc3 : l3.length ≤ c3) (hG : GLw W) (hT : Tabs W) :
    Calls Tryd.prog 20 #[jVal f0 f1 A2 A3 l2.length c2 l3.length c3] W fun x W' => x = .returned (.tuple #[.string (canonB ⟨f0, f1, l2, l3⟩), .int .i64 (printS ⟨f0, f1, l2, l3⟩).e]) ∧ Below W.heap.size W W' := by
  have hpr := fun (b : Obj) => print_calls f0 f1 l2 l3 A2 A3 c2 c3 (W.alloc b) hsm (Kd.C_alloc hC2 b) hc2 (Kd.C_alloc hC3 b) hc3 (hG.below (below_alloc (Below.refl _ _) b)) (hT.bel (below_alloc (Below.refl _ _) b))
  have hval := fun (w : World) (hb : Below W.heap.size W w) => writer_val (free := false) (canon := true) (v := ⟨f0, f1, l2, l3⟩) (Wd := w.heap.size) (w := w.alloc (.cells #[.slice none 0 0, .bool false, .int .i64 0] 60)) hsm (fun _ => hln) (fit_new _) hC2 hc2 hC3 hc3 hG hT (below_alloc hb _) hb.size (heap_alloc_new _ _)
  have HPR := Aside0.mk hpr
  have HV := Aside0.mk hval
  clear hpr hval hsm hln hC2 hC3 hG hT hc2 hc3
  have HS := Aside0.mk (show canonS ⟨f0, f1, l2, l3⟩ = valW false true 32 ⟨f0, f1, l2, l3⟩ ⟨[], 0⟩ from rfl)
  have HCB := Aside0.mk (show canonB ⟨f0, f1, l2, l3⟩ = if (printS ⟨f0, f1, l2, l3⟩).e = 0 then bs (canonS ⟨f0, f1, l2, l3⟩).out else ⟨#[]⟩ from rfl)
  generalize printS ⟨f0, f1, l2, l3⟩ = ps at *
  generalize printB ⟨f0, f1, l2, l3⟩ = pb at *
  generalize canonS ⟨f0, f1, l2, l3⟩ = cs at *
  generalize canonB ⟨f0, f1, l2, l3⟩ = cb at *
  by_cases he : ps.e = 0
  · have e0 : ((ps.e : Int) != 0) = false := by rw [he]; rfl
    have HP := Aside0.mk (show cb = bs cs.out by rw [HCB.out, if_pos he])
    have HE := Aside0.mk he
    have HCE := Aside0.mk (hce he)
    clear he hce
    go_enter Tryd.func20, Tryd.ntmps20
    go_wp2_with (first | (go_at_call 17; (with_reducible refine (HPR.out _).mono ?_); rintro e w1 ⟨rfl, hb⟩; have HB1 := Aside0.mk (show Below W.heap.size W w1 from (below_alloc (Below.refl _ _) _).trans (hb.mono (by rw [World.size_alloc]; omega))); have BX := Aside0.mk (show w1.heap[W.heap.size]? = some (.cells #[.int .i64 f0, .string f1, .slice A2 l2.length c2, .slice A3 l3.length c3] 25 (0, 0)) from (hb.block _ (by rw [World.size_alloc]; omega)).trans (heap_alloc_new W _)); clear hb; have y0 : (w1.alloc (.cells #[.slice none 0 0, .bool false, .int .i64 0] 60)).cell? ⟨W.heap.size, 0, none⟩ = some (.int .i64 f0) := (blk_cell (Below.alloc_at BX.out) 0).trans rfl; have y1 : (w1.alloc (.cells #[.slice none 0 0, .bool false, .int .i64 0] 60)).cell? ⟨W.heap.size, 1, none⟩ = some (.string f1) := (blk_cell (Below.alloc_at BX.out) 1).trans rfl; have y2 : (w1.alloc (.cells #[.slice none 0 0, .bool false, .int .i64 0] 60)).cell? ⟨W.heap.size, 2, none⟩ = some (.slice A2 l2.length c2) := (blk_cell (Below.alloc_at BX.out) 2).trans rfl; have y3 : (w1.alloc (.cells #[.slice none 0 0, .bool false, .int .i64 0] 60)).cell? ⟨W.heap.size, 3, none⟩ = some (.slice A3 l3.length c3) := (blk_cell (Below.alloc_at BX.out) 3).trans rfl) | (go_at_call 33; (with_reducible refine (HV.out w1 HB1.out).mono ?_); rintro e w2 ⟨rfl, st1, sl1, hs, _, hw, ho⟩; have hs' := hs.ok (by rw [← HS.out]; exact HCE.out); rw [← HS.out] at hs'; subst hs'; have c0' := (blk_cell hw.blk 0).trans rfl; have hcv := own_string hw.own; have HB2 := Aside0.mk (show Below W.heap.size W w2 from HB1.out.trans ((below_alloc (Below.refl _ _) _).trans (ho.low.mono (Nat.le_refl _)) |>.mono HB1.out.size)); clear hs hw ho; dsimp at c0'))
    go_ret2
    rw [HP.out, HE.out]
    exact ⟨rfl, by repeat (first | exact HB2.out | apply below_drewN | apply below_drew1)⟩
  · have e0 : ((ps.e : Int) != 0) = true := by
      have : ¬ (ps.e : Int) = 0 := by omega
      simp only [bne_iff_ne, ne_eq]
      exact this
    have HP := Aside0.mk (show cb = ⟨#[]⟩ by rw [HCB.out, if_neg he])
    clear he hce
    go_enter Tryd.func20, Tryd.ntmps20
    go_wp2_with (go_at_call 17; (with_reducible refine (HPR.out _).mono ?_); rintro e w1 ⟨rfl, hb⟩; have HB1 := Aside0.mk (show Below W.heap.size W w1 from (below_alloc (Below.refl _ _) _).trans (hb.mono (by rw [World.size_alloc]; omega))); have BX := Aside0.mk (show w1.heap[W.heap.size]? = some (.cells #[.int .i64 f0, .string f1, .slice A2 l2.length c2, .slice A3 l3.length c3] 25 (0, 0)) from (hb.block _ (by rw [World.size_alloc]; omega)).trans (heap_alloc_new W _)); clear hb; have y0 : (w1.alloc (.cells #[.slice none 0 0, .bool false, .int .i64 0] 60)).cell? ⟨W.heap.size, 0, none⟩ = some (.int .i64 f0) := (blk_cell (Below.alloc_at BX.out) 0).trans rfl; have y1 : (w1.alloc (.cells #[.slice none 0 0, .bool false, .int .i64 0] 60)).cell? ⟨W.heap.size, 1, none⟩ = some (.string f1) := (blk_cell (Below.alloc_at BX.out) 1).trans rfl; have y2 : (w1.alloc (.cells #[.slice none 0 0, .bool false, .int .i64 0] 60)).cell? ⟨W.heap.size, 2, none⟩ = some (.slice A2 l2.length c2) := (blk_cell (Below.alloc_at BX.out) 2).trans rfl; have y3 : (w1.alloc (.cells #[.slice none 0 0, .bool false, .int .i64 0] 60)).cell? ⟨W.heap.size, 3, none⟩ = some (.slice A3 l3.length c3) := (blk_cell (Below.alloc_at BX.out) 3).trans rfl)
    go_ret2
    rw [HP.out]
    exact ⟨rfl, by repeat (first | exact HB1.out | apply below_drewN | apply below_drew1)⟩
end Go.Proofs.YtaalajhmfdcalaaDoor.X
namespace Go.Proofs.YtaalajhmfdcalaaDoor.X
open Go.RowKit Go.Lib Go.Proofs.YtaalajhmfdcalaaDoorW.PrintWords Go.Proofs.YtaalajhmfdcalaaDoorW.PrintLast Go.Proofs.YtaalajhmfdcalaaDoorW.PrintMore
def sameS (v : J) : St := valW true true 32 v ⟨[], 0⟩
def sameB (a b : J) : Bool := decide ((sameS a).e = 0) && (decide ((sameS b).e = 0) && decide ((sameS a).out = (sameS b).out))
theorem fit_free (n : Nat) (h : n ≤ 140737488355328) : Fit true ⟨[], 0⟩ n := ⟨(fun _ => by show 0 + n ≤ _; omega), (fun h => by cases h)⟩
/-- The two writers as Same makes them. -/
def sW (W : World) (b1 b2 : Obj) : World := (((W.alloc b1).alloc b2).alloc (.cells #[.slice none 0 0, .bool true, .int .i64 0] 60)).alloc (.cells #[.slice none 0 0, .bool true, .int .i64 0] 60)
theorem sW_facts (W : World) (b1 b2 : Obj) : Below W.heap.size W (sW W b1 b2) ∧ (sW W b1 b2).heap[W.heap.size]? = some b1 ∧ (sW W b1 b2).heap[W.heap.size + 1]? = some b2 ∧ (sW W b1 b2).heap[W.heap.size + 1 + 1]? = some (.cells #[.slice none 0 0, .bool true, .int .i64 0] 60 (0, 0)) ∧ (sW W b1 b2).heap[W.heap.size + 1 + 1 + 1]? = some (.cells #[.slice none 0 0, .bool true, .int .i64 0] 60 (0, 0)) ∧ (sW W b1 b2).heap.size = W.heap.size + 1 + 1 + 1 + 1 := by
  have e1 : (W.alloc b1).heap.size = W.heap.size + 1 := by simp
  have e2 : ((W.alloc b1).alloc b2).heap.size = W.heap.size + 1 + 1 := by simp
  have e3 : (((W.alloc b1).alloc b2).alloc (.cells #[.slice none 0 0, .bool true, .int .i64 0] 60)).heap.size = W.heap.size + 1 + 1 + 1 := by simp
  have h0 := heap_alloc_new W b1
  have h1 := heap_alloc_new (W.alloc b1) b2
  have h2 := heap_alloc_new ((W.alloc b1).alloc b2) (.cells #[.slice none 0 0, .bool true, .int .i64 0] 60)
  have h3 := heap_alloc_new (((W.alloc b1).alloc b2).alloc (.cells #[.slice none 0 0, .bool true, .int .i64 0] 60)) (.cells #[.slice none 0 0, .bool true, .int .i64 0] 60)
  rw [e1] at h1
  rw [e2] at h2
  rw [e3] at h3
  exact ⟨below_alloc (below_alloc (below_alloc (below_alloc (Below.refl _ _) _) _) _) _, Below.alloc_at (Below.alloc_at (Below.alloc_at h0)), Below.alloc_at (Below.alloc_at h1), Below.alloc_at h2, h3, by simp [sW]⟩
/-- Behind the first value. -/
theorem bs_beq (a b : List UInt8) : ((bs a).toList == (bs b).toList) = decide (a = b) := by
  have h : ∀ l : List UInt8, (bs l).toList = l := fun l => by rw [toList_data]; simp [bs]
  rw [h, h, Bool.eq_iff_iff]
  simp
theorem ne_e {n : Nat} (h : ¬ n = 0) : ((n : Int) != 0) = true := by
  have : ¬ (n : Int) = 0 := by omega
  simp only [bne_iff_ne, ne_eq]
  exact this
theorem eq_e {n : Nat} (h : n = 0) : ((n : Int) != 0) = false := by rw [h]; rfl
structure Q1 (W : World) (va : St) (v2 : Array Value) (st : St) (sl : Value) (w : World) : Prop where
  sm : Sm true st va
  bel : Below W.heap.size W w
  two : w.heap[W.heap.size + 1]? = some (.cells v2 25 (0, 0))
  x : Wr (W.heap.size + 1 + 1) true st sl w
  y : w.heap[W.heap.size + 1 + 1 + 1]? = some (.cells #[.slice none 0 0, .bool true, .int .i64 0] 60 (0, 0))
  own : ∀ g, sl.ownBlock = some g → W.heap.size + 1 + 1 + 1 + 1 ≤ g
theorem q1_of {W w : World} {v1 v2 : Array Value} {va : St} {wt : Nat} {x : Ending} (h : VEnds (W.heap.size + 1 + 1) true true ⟨[], 0⟩ (.slice none 0 0) (sW W (.cells v1 25) (.cells v2 25)) wt va x w) : x = .returned (.tuple #[]) ∧ ∃ st sl, Q1 W va v2 st sl w := by
  obtain ⟨hx, st, sl, hs, _, hw, ho⟩ := h
  obtain ⟨f0, f1, f2, f3, f4, f5⟩ := sW_facts W (.cells v1 25) (.cells v2 25)
  refine ⟨hx, st, sl, hs, f0.trans (ho.low.mono (by omega)), (ho.low.block _ (by omega)).trans f2, hw, (ho.kept _ (by omega) (by omega) (by simp [Value.ownBlock])).trans f4, fun g hg => ?_⟩
  rcases ho.at_ with h1 | ⟨b, h1, h2⟩
  · rw [hg] at h1; simp [Value.ownBlock] at h1
  · rw [hg] at h1; injection h1 with h1; omega
/-- Behind both. -/
structure Q2 (W : World) (va vb : St) (st1 st2 : St) (sl1 sl2 : Value) (w : World) : Prop where
  sm1 : Sm true st1 va
  sm2 : Sm true st2 vb
  bel : Below W.heap.size W w
  x : Wr (W.heap.size + 1 + 1) true st1 sl1 w
  y : Wr (W.heap.size + 1 + 1 + 1) true st2 sl2 w
theorem q2_of {W w1 w : World} {v2 : Array Value} {va vb st1 : St} {sl1 : Value} {wt : Nat} {x : Ending} (q : Q1 W va v2 st1 sl1 w1) (h : VEnds (W.heap.size + 1 + 1 + 1) true true ⟨[], 0⟩ (.slice none 0 0) w1 wt vb x w) : x = .returned (.tuple #[]) ∧ ∃ st2 sl2, Q2 W va vb st1 st2 sl1 sl2 w := by
  obtain ⟨hx, st, sl, hs, _, hw, ho⟩ := h
  refine ⟨hx, st, sl, q.sm, hs, q.bel.trans (ho.low.mono (by omega)), ⟨(ho.low.block _ (by omega)).trans q.x.blk, q.x.own.heap ho.size (fun g hg => ho.kept g (q.x.own.lt g hg).2 (by have := q.own g hg; omega) (by simp [Value.ownBlock]))⟩, hw⟩
set_option maxRecDepth 1000000 in
set_option maxHeartbeats 4000000 in
theorem same_calls (f0 : Int) (f1 : ByteArray) (l2 : List ByteArray) (l3 : List J) (A2 A3 : Option Addr) (c2 c3 : Nat) (g0 : Int) (g1 : ByteArray) (m2 : List ByteArray) (m3 : List J) (B2 B3 : Option Addr) (k2 k3 : Nat) (W : World) (hsm : SmJ 32 ⟨f0, f1, l2, l3⟩) (hln : LnJ 32 ⟨f0, f1, l2, l3⟩) (hwt : wtJ 32 ⟨f0, f1, l2, l3⟩ ≤ 140737488355328) (hC2 : Kd.string.C W A2 l2.length l2) (hc2 : l2.length ≤ c2) (hC3 : k25.C W A3 l3.length l3) (hc3 : l3.length ≤ c3) (hsm' : SmJ 32 ⟨g0, g1, m2, m3⟩) (hln' : LnJ 32 ⟨g0, g1, m2, m3⟩) (hwt' : wtJ 32 ⟨g0, g1, m2, m3⟩ ≤ 140737488355328) (hD2 : Kd.string.C W B2 m2.length m2) (hd2 : m2.length ≤ k2) (hD3 : k25.C W B3 m3.length m3) (hd3 : m3.length ≤ k3) (hG : GLw W) (hT : Tabs W) :
    Calls Tryd.prog 22 #[jVal f0 f1 A2 A3 l2.length c2 l3.length c3, jVal g0 g1 B2 B3 m2.length k2 m3.length k3] W fun x W' => x = .returned (.bool (sameB ⟨f0, f1, l2, l3⟩ ⟨g0, g1, m2, m3⟩)) ∧ Below W.heap.size W W' := by
  obtain ⟨F0, F1, F2, F3, F4, F5⟩ := sW_facts W (.cells #[.int .i64 f0, .string f1, .slice A2 l2.length c2, .slice A3 l3.length c3] 25) (.cells #[.int .i64 g0, .string g1, .slice B2 m2.length k2, .slice B3 m3.length k3] 25)
  have hv1 := writer_val (free := true) (canon := true) (v := ⟨f0, f1, l2, l3⟩) (Wd := W.heap.size + 1 + 1) (w := (sW W (.cells #[.int .i64 f0, .string f1, .slice A2 l2.length c2, .slice A3 l3.length c3] 25) (.cells #[.int .i64 g0, .string g1, .slice B2 m2.length k2, .slice B3 m3.length k3] 25))) hsm (fun _ => hln) (fit_free _ hwt) hC2 hc2 hC3 hc3 hG hT F0 (by omega) F3
  have hv2 := fun (w : World) (hb : Below W.heap.size W w) (hw : w.heap[W.heap.size + 1 + 1 + 1]? = some (.cells #[.slice none 0 0, .bool true, .int .i64 0] 60 (0, 0))) => writer_val (free := true) (canon := true) (v := ⟨g0, g1, m2, m3⟩) (Wd := W.heap.size + 1 + 1 + 1) (w := w) hsm' (fun _ => hln') (fit_free _ hwt') hD2 hd2 hD3 hd3 hG hT hb (by omega) hw
  have x0 : ((((W.alloc (.cells #[.int .i64 f0, .string f1, .slice A2 l2.length c2, .slice A3 l3.length c3] 25)).alloc (.cells #[.int .i64 g0, .string g1, .slice B2 m2.length k2, .slice B3 m3.length k3] 25)).alloc (.cells #[.slice none 0 0, .bool true, .int .i64 0] 60)).alloc (.cells #[.slice none 0 0, .bool true, .int .i64 0] 60)).cell? ⟨W.heap.size, 0, none⟩ = some (.int .i64 f0) := (blk_cell F1 0).trans rfl
  have x1 : ((((W.alloc (.cells #[.int .i64 f0, .string f1, .slice A2 l2.length c2, .slice A3 l3.length c3] 25)).alloc (.cells #[.int .i64 g0, .string g1, .slice B2 m2.length k2, .slice B3 m3.length k3] 25)).alloc (.cells #[.slice none 0 0, .bool true, .int .i64 0] 60)).alloc (.cells #[.slice none 0 0, .bool true, .int .i64 0] 60)).cell? ⟨W.heap.size, 1, none⟩ = some (.string f1) := (blk_cell F1 1).trans rfl
  have x2 : ((((W.alloc (.cells #[.int .i64 f0, .string f1, .slice A2 l2.length c2, .slice A3 l3.length c3] 25)).alloc (.cells #[.int .i64 g0, .string g1, .slice B2 m2.length k2, .slice B3 m3.length k3] 25)).alloc (.cells #[.slice none 0 0, .bool true, .int .i64 0] 60)).alloc (.cells #[.slice none 0 0, .bool true, .int .i64 0] 60)).cell? ⟨W.heap.size, 2, none⟩ = some (.slice A2 l2.length c2) := (blk_cell F1 2).trans rfl
  have x3 : ((((W.alloc (.cells #[.int .i64 f0, .string f1, .slice A2 l2.length c2, .slice A3 l3.length c3] 25)).alloc (.cells #[.int .i64 g0, .string g1, .slice B2 m2.length k2, .slice B3 m3.length k3] 25)).alloc (.cells #[.slice none 0 0, .bool true, .int .i64 0] 60)).alloc (.cells #[.slice none 0 0, .bool true, .int .i64 0] 60)).cell? ⟨W.heap.size, 3, none⟩ = some (.slice A3 l3.length c3) := (blk_cell F1 3).trans rfl
  unfold sW at hv1
  have HV1 := Aside0.mk hv1
  have HV2 := Aside0.mk hv2
  clear hv1 hv2 hsm hln hwt hC2 hc2 hC3 hc3 hsm' hln' hwt' hD2 hd2 hD3 hd3 hG hT F0 F1 F2 F3 F4 F5
  have HSB := Aside0.mk (show sameB ⟨f0, f1, l2, l3⟩ ⟨g0, g1, m2, m3⟩ = (decide ((sameS ⟨f0, f1, l2, l3⟩).e = 0) && (decide ((sameS ⟨g0, g1, m2, m3⟩).e = 0) && decide ((sameS ⟨f0, f1, l2, l3⟩).out = (sameS ⟨g0, g1, m2, m3⟩).out))) from rfl)
  have HS1 := Aside0.mk (show sameS ⟨f0, f1, l2, l3⟩ = valW true true 32 ⟨f0, f1, l2, l3⟩ ⟨[], 0⟩ from rfl)
  have HS2 := Aside0.mk (show sameS ⟨g0, g1, m2, m3⟩ = valW true true 32 ⟨g0, g1, m2, m3⟩ ⟨[], 0⟩ from rfl)
  generalize sameS ⟨f0, f1, l2, l3⟩ = sa at *
  generalize sameS ⟨g0, g1, m2, m3⟩ = sb at *
  generalize sameB ⟨f0, f1, l2, l3⟩ ⟨g0, g1, m2, m3⟩ = r at *
  by_cases h1 : sa.e = 0
  · by_cases h2 : sb.e = 0
    · have HP := Aside0.mk (show r = decide (sa.out = sb.out) by rw [HSB.out, decide_eq_true h1, decide_eq_true h2]; rfl)
      go_enter Tryd.func22, Tryd.ntmps22
      go_wp2_with (first | (go_at_call 33; (with_reducible refine (HV2.out _ HQ.out.bel HQ.out.y).mono ?_); intro e w6 hh; obtain ⟨rfl, st2, sl2, hq⟩ := q2_of HQ.out hh; have HR := Aside0.mk hq; clear hh hq; have z0 := (blk_cell HR.out.x.blk 0).trans rfl; have z2 := (blk_cell HR.out.x.blk 2).trans rfl; have u0 := (blk_cell HR.out.y.blk 0).trans rfl; have u2 := (blk_cell HR.out.y.blk 2).trans rfl; have hv1 := own_string HR.out.x.own; have hv2 := own_string HR.out.y.own; have hv3 := own_string (show Own _ w6.drew sl1 st1.out from HR.out.x.own.heap (Nat.le_refl _) (fun _ _ => rfl)); have hv4 := own_string (show Own _ w6.drew sl2 st2.out from HR.out.y.own.heap (Nat.le_refl _) (fun _ _ => rfl)); have m1 := HR.out.sm1.e_iff; have m2' := HR.out.sm2.e_iff; rw [← HS1.out] at m1; rw [← HS2.out] at m2'; have e1 : ((st1.e : Int) != 0) = false := eq_e (m1.2 h1); have e2 : ((st2.e : Int) != 0) = false := eq_e (m2'.2 h2); have HO1 := Aside0.mk (show st1 = sa from HS1.out ▸ HR.out.sm1.ok (HS1.out ▸ h1)); have HO2 := Aside0.mk (show st2 = sb from HS2.out ▸ HR.out.sm2.ok (HS2.out ▸ h2)); clear m1 m2'; dsimp at z0 z2 u0 u2) | (go_at_call 33; (with_reducible refine HV1.out.mono ?_); intro e w5 hh; obtain ⟨rfl, st1, sl1, hq⟩ := q1_of (v1 := #[.int .i64 f0, .string f1, .slice A2 l2.length c2, .slice A3 l3.length c3]) (v2 := #[.int .i64 g0, .string g1, .slice B2 m2.length k2, .slice B3 m3.length k3]) hh; have HQ := Aside0.mk hq; clear hh hq; have y0 : w5.cell? ⟨W.heap.size + 1, 0, none⟩ = some (.int .i64 g0) := (blk_cell HQ.out.two 0).trans rfl; have y1 : w5.cell? ⟨W.heap.size + 1, 1, none⟩ = some (.string g1) := (blk_cell HQ.out.two 1).trans rfl; have y2 : w5.cell? ⟨W.heap.size + 1, 2, none⟩ = some (.slice B2 m2.length k2) := (blk_cell HQ.out.two 2).trans rfl; have y3 : w5.cell? ⟨W.heap.size + 1, 3, none⟩ = some (.slice B3 m3.length k3) := (blk_cell HQ.out.two 3).trans rfl))

      go_region
      go_wp2
      go_ret
      exact ⟨by rw [HP.out, HO1.out, HO2.out]; exact congrArg (fun b => Ending.returned (Value.bool b)) (bs_beq _ _), by repeat (first | exact HR.out.bel | apply below_drewN | apply below_drew1)⟩
    · have HP := Aside0.mk (show r = false by rw [HSB.out, decide_eq_true h1, decide_eq_false h2]; rfl)
      go_enter Tryd.func22, Tryd.ntmps22
      go_wp2_with (first | (go_at_call 33; (with_reducible refine (HV2.out _ HQ.out.bel HQ.out.y).mono ?_); intro e w6 hh; obtain ⟨rfl, st2, sl2, hq⟩ := q2_of HQ.out hh; have HR := Aside0.mk hq; clear hh hq; have z0 := (blk_cell HR.out.x.blk 0).trans rfl; have z2 := (blk_cell HR.out.x.blk 2).trans rfl; have u0 := (blk_cell HR.out.y.blk 0).trans rfl; have u2 := (blk_cell HR.out.y.blk 2).trans rfl; have hv1 := own_string HR.out.x.own; have hv2 := own_string HR.out.y.own; have hv3 := own_string (show Own _ w6.drew sl1 st1.out from HR.out.x.own.heap (Nat.le_refl _) (fun _ _ => rfl)); have hv4 := own_string (show Own _ w6.drew sl2 st2.out from HR.out.y.own.heap (Nat.le_refl _) (fun _ _ => rfl)); have m1 := HR.out.sm1.e_iff; have m2' := HR.out.sm2.e_iff; rw [← HS1.out] at m1; rw [← HS2.out] at m2'; have e1 : ((st1.e : Int) != 0) = false := eq_e (m1.2 h1); have e2 : ((st2.e : Int) != 0) = true := ne_e (fun h => h2 (m2'.1 h)); clear m1 m2'; dsimp at z0 z2 u0 u2) | (go_at_call 33; (with_reducible refine HV1.out.mono ?_); intro e w5 hh; obtain ⟨rfl, st1, sl1, hq⟩ := q1_of (v1 := #[.int .i64 f0, .string f1, .slice A2 l2.length c2, .slice A3 l3.length c3]) (v2 := #[.int .i64 g0, .string g1, .slice B2 m2.length k2, .slice B3 m3.length k3]) hh; have HQ := Aside0.mk hq; clear hh hq; have y0 : w5.cell? ⟨W.heap.size + 1, 0, none⟩ = some (.int .i64 g0) := (blk_cell HQ.out.two 0).trans rfl; have y1 : w5.cell? ⟨W.heap.size + 1, 1, none⟩ = some (.string g1) := (blk_cell HQ.out.two 1).trans rfl; have y2 : w5.cell? ⟨W.heap.size + 1, 2, none⟩ = some (.slice B2 m2.length k2) := (blk_cell HQ.out.two 2).trans rfl; have y3 : w5.cell? ⟨W.heap.size + 1, 3, none⟩ = some (.slice B3 m3.length k3) := (blk_cell HQ.out.two 3).trans rfl))

      go_ret
      exact ⟨by rw [HP.out]; rfl, HR.out.bel⟩
  · have HP := Aside0.mk (show r = false by rw [HSB.out, decide_eq_false h1]; rfl)
    go_enter Tryd.func22, Tryd.ntmps22
    go_wp2_with (first | (go_at_call 33; (with_reducible refine (HV2.out _ HQ.out.bel HQ.out.y).mono ?_); intro e w6 hh; obtain ⟨rfl, st2, sl2, hq⟩ := q2_of HQ.out hh; have HR := Aside0.mk hq; clear hh hq; have z0 := (blk_cell HR.out.x.blk 0).trans rfl; have z2 := (blk_cell HR.out.x.blk 2).trans rfl; have u0 := (blk_cell HR.out.y.blk 0).trans rfl; have u2 := (blk_cell HR.out.y.blk 2).trans rfl; have hv1 := own_string HR.out.x.own; have hv2 := own_string HR.out.y.own; have hv3 := own_string (show Own _ w6.drew sl1 st1.out from HR.out.x.own.heap (Nat.le_refl _) (fun _ _ => rfl)); have hv4 := own_string (show Own _ w6.drew sl2 st2.out from HR.out.y.own.heap (Nat.le_refl _) (fun _ _ => rfl)); have m1 := HR.out.sm1.e_iff; have m2' := HR.out.sm2.e_iff; rw [← HS1.out] at m1; rw [← HS2.out] at m2'; have e1 : ((st1.e : Int) != 0) = true := ne_e (fun h => h1 (m1.1 h)); clear m1 m2'; dsimp at z0 z2 u0 u2) | (go_at_call 33; (with_reducible refine HV1.out.mono ?_); intro e w5 hh; obtain ⟨rfl, st1, sl1, hq⟩ := q1_of (v1 := #[.int .i64 f0, .string f1, .slice A2 l2.length c2, .slice A3 l3.length c3]) (v2 := #[.int .i64 g0, .string g1, .slice B2 m2.length k2, .slice B3 m3.length k3]) hh; have HQ := Aside0.mk hq; clear hh hq; have y0 : w5.cell? ⟨W.heap.size + 1, 0, none⟩ = some (.int .i64 g0) := (blk_cell HQ.out.two 0).trans rfl; have y1 : w5.cell? ⟨W.heap.size + 1, 1, none⟩ = some (.string g1) := (blk_cell HQ.out.two 1).trans rfl; have y2 : w5.cell? ⟨W.heap.size + 1, 2, none⟩ = some (.slice B2 m2.length k2) := (blk_cell HQ.out.two 2).trans rfl; have y3 : w5.cell? ⟨W.heap.size + 1, 3, none⟩ = some (.slice B3 m3.length k3) := (blk_cell HQ.out.two 3).trans rfl))

    go_ret
    exact ⟨by rw [HP.out]; rfl, HR.out.bel⟩
end Go.Proofs.YtaalajhmfdcalaaDoor.X
namespace Go.Proofs.YtaalajhmfdcalaaDoor.X
open Go.RowKit Go.Lib Go.Proofs.YtaalajhmfdcalaaDoorW.PrintWords Go.Proofs.YtaalajhmfdcalaaDoorW.PrintLast Go.Proofs.YtaalajhmfdcalaaDoorW.PrintMore
def lnB : Nat → J → Bool
  | 0, _ => true
  | r + 1, v => decide (v.f3.length ≤ 1000000) && v.f3.all (fun y => lnB r y)
theorem lnB_iff : ∀ (r : Nat) (v : J), lnB r v = true ↔ LnJ r v
  | 0, v => by simp [lnB, LnJ]
  | r + 1, v => by
    simp only [lnB, LnJ, Bool.and_eq_true, decide_eq_true_eq, List.all_eq_true]
    refine and_congr Iff.rfl ⟨fun h y hy => (lnB_iff r y).1 (h y hy), fun h y hy => (lnB_iff r y).2 (h y hy)⟩
def canOK (v : J) : Bool := smB 32 v && (lnB 32 v && (decide ((printS v).e ≠ 0) || decide ((canonS v).e = 0)))
def jtext_Canon.f (a0_0 : Int) (a0_1 : ByteArray) (l0_2 : List ByteArray) (l0_3 : List (S25)) : Option (ByteArray × Int) :=
  if canOK ⟨a0_0, a0_1, l0_2, l0_3⟩ = true then some (canonB ⟨a0_0, a0_1, l0_2, l0_3⟩, ((printS ⟨a0_0, a0_1, l0_2, l0_3⟩).e : Int)) else none
theorem jtext_Canon.calls (a0_0 : Int) (a0_1 : ByteArray) (A0_2 : Option Addr) (c0_2 : Nat) (l0_2 : List ByteArray) (A0_3 : Option Addr) (c0_3 : Nat) (l0_3 : List (S25)) (r1 : ByteArray) (r2 : Int) (w : World) (hr0_2 : Kd.C Kd.string w A0_2 l0_2.length l0_2) (hc0_2 : l0_2.length ≤ c0_2) (hr0_3 : Kd.C k25 w A0_3 l0_3.length l0_3) (hc0_3 : l0_3.length ≤ c0_3) (hG : GL w) (h : jtext_Canon.f a0_0 a0_1 l0_2 l0_3 = some (r1, r2)) :
    Calls Tryd.prog 20 #[.agg #[.int .i64 a0_0, .string a0_1, .slice A0_2 l0_2.length c0_2, .slice A0_3 l0_3.length c0_3]] w fun e w' => e = .returned (.tuple #[.string r1, .int .i64 r2]) ∧ Below w.heap.size w w' := by
  unfold jtext_Canon.f at h
  split at h
  · rename_i hs
    simp only [Option.some.injEq, Prod.mk.injEq] at h
    obtain ⟨rfl, rfl⟩ := h
    simp only [canOK, Bool.and_eq_true, Bool.or_eq_true, decide_eq_true_eq] at hs
    exact canon_calls a0_0 a0_1 l0_2 l0_3 A0_2 A0_3 c0_2 c0_3 w ((smB_iff 32 _).1 hs.1) ((lnB_iff 32 _).1 hs.2.1) (fun h => hs.2.2.elim (fun h2 => absurd h h2) id) hr0_2 hc0_2 hr0_3 hc0_3 hG.words hG.tabs
  · cases h
def samOK (v : J) : Bool := smB 32 v && (lnB 32 v && decide (wtJ 32 v ≤ 140737488355328))
def jtext_Same.f (a0_0 : Int) (a0_1 : ByteArray) (l0_2 : List ByteArray) (l0_3 : List (S25)) (a1_0 : Int) (a1_1 : ByteArray) (l1_2 : List ByteArray) (l1_3 : List (S25)) : Option Bool :=
  if samOK ⟨a0_0, a0_1, l0_2, l0_3⟩ && samOK ⟨a1_0, a1_1, l1_2, l1_3⟩ = true then some (sameB ⟨a0_0, a0_1, l0_2, l0_3⟩ ⟨a1_0, a1_1, l1_2, l1_3⟩) else none
theorem jtext_Same.calls (a0_0 : Int) (a0_1 : ByteArray) (A0_2 : Option Addr) (c0_2 : Nat) (l0_2 : List ByteArray) (A0_3 : Option Addr) (c0_3 : Nat) (l0_3 : List (S25)) (a1_0 : Int) (a1_1 : ByteArray) (A1_2 : Option Addr) (c1_2 : Nat) (l1_2 : List ByteArray) (A1_3 : Option Addr) (c1_3 : Nat) (l1_3 : List (S25)) (r1 : Bool) (w : World) (hr0_2 : Kd.C Kd.string w A0_2 l0_2.length l0_2) (hc0_2 : l0_2.length ≤ c0_2) (hr0_3 : Kd.C k25 w A0_3 l0_3.length l0_3) (hc0_3 : l0_3.length ≤ c0_3) (hr1_2 : Kd.C Kd.string w A1_2 l1_2.length l1_2) (hc1_2 : l1_2.length ≤ c1_2) (hr1_3 : Kd.C k25 w A1_3 l1_3.length l1_3) (hc1_3 : l1_3.length ≤ c1_3) (hG : GL w) (h : jtext_Same.f a0_0 a0_1 l0_2 l0_3 a1_0 a1_1 l1_2 l1_3 = some r1) :
    Calls Tryd.prog 22 #[.agg #[.int .i64 a0_0, .string a0_1, .slice A0_2 l0_2.length c0_2, .slice A0_3 l0_3.length c0_3], .agg #[.int .i64 a1_0, .string a1_1, .slice A1_2 l1_2.length c1_2, .slice A1_3 l1_3.length c1_3]] w fun e w' => e = .returned (.bool r1) ∧ Below w.heap.size w w' := by
  unfold jtext_Same.f at h
  split at h
  · rename_i hs
    simp only [Option.some.injEq] at h
    subst h
    simp only [samOK, Bool.and_eq_true, decide_eq_true_eq] at hs
    exact same_calls a0_0 a0_1 l0_2 l0_3 A0_2 A0_3 c0_2 c0_3 a1_0 a1_1 l1_2 l1_3 A1_2 A1_3 c1_2 c1_3 w ((smB_iff 32 _).1 hs.1.1) ((lnB_iff 32 _).1 hs.1.2.1) hs.1.2.2 hr0_2 hc0_2 hr0_3 hc0_3 ((smB_iff 32 _).1 hs.2.1) ((lnB_iff 32 _).1 hs.2.2.1) hs.2.2.2 hr1_2 hc1_2 hr1_3 hc1_3 hG.words hG.tabs
  · cases h
end Go.Proofs.YtaalajhmfdcalaaDoor.X
namespace Go.Proofs.YtaalajhmfdcalaaDoor.X
open Go.RowKit Go.Lib Go.Proofs.YtaalajhmfdcalaaDoorW.PrintWords
/-- A value that is fit to be written. -/
structure Fits (v : J) : Prop where
  ok : OKJ 32 v
  len : (encJ 32 v).length ≤ 16384
theorem fits_of {v : J} (h : (printS v).e = 0) : Fits v := ⟨(printS_fit v h).1, printS_len v h⟩
theorem Fits.printS {v : J} (h : Fits v) : printS v = ⟨encJ 32 v, 0⟩ := by
  unfold X.printS
  rw [valW_yes false 32 v ⟨[], 0⟩ h.ok rfl (fun _ => by have := h.len; show 0 + _ ≤ _; omega)]
  rfl
theorem Fits.print_e {v : J} (h : Fits v) : (X.printS v).e = 0 := by rw [h.printS]
theorem Fits.printB {v : J} (h : Fits v) : printB v = bs (encJ 32 v) := by unfold X.printB; rw [h.printS, if_pos rfl]
theorem Fits.sort {v : J} (h : Fits v) : Fits (sJ 32 v) := ⟨OKJ_sJ 32 v h.ok, by rw [encJ_sJ_len]; exact h.len⟩
theorem canonS_eq (v : J) : canonS v = printS (sJ 32 v) := canon_sort false 32 v ⟨[], 0⟩
theorem Fits.canonS {v : J} (h : Fits v) : canonS v = ⟨encJ 32 (sJ 32 v), 0⟩ := by rw [canonS_eq, h.sort.printS]
theorem Fits.canonB {v : J} (h : Fits v) : canonB v = bs (encJ 32 (sJ 32 v)) := by unfold X.canonB; rw [h.printS, if_pos rfl, h.canonS]
theorem Fits.sameS {v : J} (h : Fits v) : sameS v = ⟨encJ 32 (sJ 32 v), 0⟩ := by
  unfold X.sameS
  rw [canon_sort, valW_yes true 32 (sJ 32 v) ⟨[], 0⟩ h.sort.ok rfl (fun hf => by cases hf)]
  rfl
theorem Fits.wt {v : J} (h : Fits v) : wtJ 32 v ≤ 1064960 := by
  have := wt_enc 32 v h.ok
  have := h.len
  omega
theorem Fits.sam {v : J} (h : Fits v) : samOK v = true := by
  have hw := h.wt
  unfold samOK
  rw [(smB_iff 32 v).2 (SmJ_of_wt 32 v (by omega)), (lnB_iff 32 v).2 (LnJ_of_wt 32 v (by omega)), decide_eq_true (show wtJ 32 v ≤ 140737488355328 by omega)]
  rfl
theorem Fits.same {a b : J} (ha : Fits a) (hb : Fits b) : jtext_Same.f a.f0 a.f1 a.f2 a.f3 b.f0 b.f1 b.f2 b.f3 = some (decide (encJ 32 (sJ 32 a) = encJ 32 (sJ 32 b))) := by
  unfold jtext_Same.f
  rw [eta_J, eta_J, ha.sam, hb.sam, if_pos (by decide)]
  unfold sameB
  rw [ha.sameS, hb.sameS]
  rfl
theorem lnB_of {B L : Nat} (hL : L ≤ 1000000) : ∀ (r : Nat) {v : J}, Bd B L v → lnB r v = true
  | 0, v, h => rfl
  | r + 1, v, h => by
    cases h with
    | mk f0 f1 f2 f3 _ _ _ h2 h3 =>
      unfold lnB
      simp only [Bool.and_eq_true, decide_eq_true_eq, List.all_eq_true]
      exact ⟨by omega, fun y hy => lnB_of hL r (h3 y hy)⟩
theorem canon_f_ok {B : Nat} (hB : B ≤ 288230376151711743) {v : J} (h : Bd B 10000 v) : jtext_Canon.f v.f0 v.f1 v.f2 v.f3 = some (canonB v, ((printS v).e : Int)) := by
  unfold jtext_Canon.f
  have hc : canOK v = true := by
    unfold canOK
    rw [smB_of hB 32 h, lnB_of (by decide) 32 h, Bool.true_and, Bool.true_and, Bool.or_eq_true, decide_eq_true_eq, decide_eq_true_eq]
    by_cases he : (printS v).e = 0
    · exact .inr (by rw [(fits_of he).canonS])
    · exact .inl he
  rw [eta_J, if_pos hc]
theorem canonB_bad {v : J} (h : ¬ (printS v).e = 0) : canonB v = ⟨#[]⟩ := by unfold canonB; rw [if_neg h]
theorem printB_bad {v : J} (h : ¬ (printS v).e = 0) : printB v = ⟨#[]⟩ := by unfold printB; rw [if_neg h]
/-- Canon's text is read as the value in order. -/
theorem Fits.parse {v : J} (h : Fits v) : jtext_Parse.f (X.printB v) = some (v.f0, v.f1, v.f2, v.f3, 0, 0) := parse_print v h.print_e
theorem Fits.canon_print {v : J} (h : Fits v) : X.canonB v = X.printB (sJ 32 v) := by rw [h.canonB, h.sort.printB]
end Go.Proofs.YtaalajhmfdcalaaDoor.X
namespace Go.Proofs.YtaalajhmfdcalaaDoor.X
open Go.ChangeShapes Go.WideShapes Go.RowKit Go.Proofs.YtaalajhmfdcalaaDoorW.PrintWords
variable {H : Type} {enc : TypeId × Value → H}
theorem weightsAll_mem {P : Program} {e : TypeId} {n : Nat} : ∀ {l : List (DataW H)} {d : DataW H}, d ∈ l → n ∈ d.weights P e → n ∈ DataW.weightsAll P e l
  | x :: r, d, hd, hn => by
    simp only [DataW.weightsAll, List.mem_append]
    rcases List.mem_cons.1 hd with rfl | hd
    · exact .inl hn
    · exact .inr (weightsAll_mem hd hn)
abbrev lim : Nat := 140737488351232
abbrev limL : Nat := 281474976710656
set_option maxRecDepth 100000 in
/-- A slice that is read, element by element. -/
theorem open_row {α : Type} [Inhabited α] (d : Kd α) {e t : TypeId} (ht : Tryd.prog.underlying t = some (.slice e)) (hsz : Tryd.prog.cellsOf e = d.sz) (Q : α → Prop) {W : World} {n : Nat} {v : Value} {y : DataW H × List MemPlace}
    (hel : ∀ n' cs (x : DataW H × List MemPlace), n' < n → DataW.trod enc Tryd.prog W 0 (fun _ => true) true n' e cs = some x → (∀ k ∈ x.1.weights Tryd.prog e, k ≤ lim) → cs.length = d.sz ∧ ∃ a : α, d.K W a cs ∧ Q a)
    (h : DataW.trod enc Tryd.prog W 0 (fun _ => true) true n t [v] = some y) (hw : ∀ k ∈ y.1.weights Tryd.prog t, k ≤ lim) :
    ∃ (A : Option Addr) (l : List α) (c : Nat), v = .slice A l.length c ∧ l.length ≤ c ∧ Kd.C d W A l.length l ∧ (∀ a ∈ l, Q a) ∧ l.length * Tryd.prog.bytesOf e ≤ lim := by
  rcases DataW.trod_slice ht h with ⟨hc, _⟩ | ⟨a, len, cap, elems, rest, m, rfl, hc, rfl, _, hl, hm, hel1, hx, _, _⟩
  · obtain rfl : v = .slice none 0 0 := by simpa using hc
    exact ⟨none, [], 0, rfl, Nat.le_refl _, ⟨rfl, by simp, fun h => absurd h (by simp)⟩, (fun f hf => by cases hf), by rw [List.length_nil, Nat.zero_mul]; exact Nat.zero_le _⟩
  · obtain rfl : v = .slice (some a) len cap := by simpa using hc
    have hwl : (elems.length + rest.length) * Tryd.prog.bytesOf e ≤ lim := by
      refine hw _ ?_
      simp only [DataW.weights, ht, List.length_map]
      exact List.mem_cons_self ..
    have each : ∀ i, i < len → ∃ q : α, ∃ cs, W.cells? 0 (a.add (i * d.sz)) d.sz = some cs ∧ cs.length = d.sz ∧ d.K W q cs ∧ Q q := by
      intro i hi
      have h1 := hx i hi
      rw [List.getElem?_eq_getElem (by omega), hsz] at h1
      obtain ⟨cs, h2, h3⟩ := Option.bind_eq_some_iff.1 h1
      obtain ⟨h4, q, h5, h6⟩ := hel m cs _ (Nat.lt_succ_self m) h3 (fun k hk => hw k (by
        simp only [DataW.weights, ht, List.mem_cons, List.mem_append]
        exact .inr (.inl (weightsAll_mem (List.mem_map.2 ⟨_, List.getElem_mem (by omega : i < elems.length), rfl⟩) hk))))
      exact ⟨q, cs, h2, h4, h5, h6⟩
    obtain ⟨q, hq⟩ := Go.Deep.choose_lt each
    have hlen : ((List.range len).map q).length = len := by simp
    refine ⟨some a, (List.range len).map q, cap, by rw [hlen], by rw [hlen]; exact hl, ⟨rfl, ?_, fun _ => ⟨a, rfl, ?_⟩⟩, ?_, ?_⟩
    · rw [hlen]
      have : maxLen = 9223372036854775807 := rfl
      omega
    · intro j p hj
      have hj' : j < len := by
        have := (List.getElem?_eq_some_iff.1 hj).1
        simpa using this
      have hp : p = q j := by
        simp [List.getElem?_map, List.getElem?_range hj'] at hj
        exact hj.symm
      subst hp
      obtain ⟨cs, h1, h2, h3, _⟩ := hq j hj'
      obtain ⟨_, h5, h6⟩ := World.cells?_some h1
      refine ⟨cs, h2, h3, fun i u hu => ?_⟩
      have hi : i < d.sz := by have := (List.getElem?_eq_some_iff.1 hu).1; omega
      have := h6 i hi
      rw [hu] at this
      rw [← this]
      rw [Addr.add_add]
    · intro f hf
      obtain ⟨i, hi, rfl⟩ := List.mem_map.1 hf
      obtain ⟨cs, _, _, _, h4⟩ := hq i (List.mem_range.1 hi)
      exact h4
    · rw [hlen]
      have hle : len ≤ elems.length + rest.length := by omega
      have hmul : len * Tryd.prog.bytesOf e ≤ (elems.length + rest.length) * Tryd.prog.bytesOf e := Nat.mul_le_mul_right _ hle
      exact Nat.le_trans hmul hwl
theorem open_str {W : World} {n : Nat} {cs : List Value} {x : DataW H × List MemPlace} (h : DataW.trod enc Tryd.prog W 0 (fun _ => true) true n 9 cs = some x) (hw : ∀ k ∈ x.1.weights Tryd.prog 9, k ≤ lim) : ∃ s : ByteArray, cs = [.string s] ∧ s.size ≤ lim := by
  obtain ⟨s, e, rfl, _⟩ := DataW.trod_string Tryd.underlying9 h
  refine ⟨s, e, ?_⟩
  have := hw s.data.toList.length (by simp [DataW.weights])
  rw [Array.length_toList] at this
  exact this
theorem open_strs {W : World} {n : Nat} {v : Value} {y : DataW H × List MemPlace} (h : DataW.trod enc Tryd.prog W 0 (fun _ => true) true n 22 [v] = some y) (hw : ∀ k ∈ y.1.weights Tryd.prog 22, k ≤ lim) :
    ∃ (A : Option Addr) (l : List ByteArray) (c : Nat), v = .slice A l.length c ∧ l.length ≤ c ∧ Kd.C Kd.string W A l.length l ∧ (∀ a ∈ l, a.size ≤ lim) ∧ l.length ≤ limL := by
  haveI : Inhabited ByteArray := ⟨⟨#[]⟩⟩
  obtain ⟨A, l, c, e1, h1, h2, h3, h4⟩ := open_row (H := H) (enc := enc) Kd.string Tryd.underlying22 (by kernel_rfl) (fun s => s.size ≤ lim) (fun n' cs x _ hx hk => by
    obtain ⟨s, rfl, hs⟩ := open_str hx hk
    exact ⟨rfl, s, rfl, hs⟩) h hw
  rw [show Tryd.prog.bytesOf 9 = 16 by kernel_rfl] at h4
  have h4' : l.length * 16 ≤ 140737488351232 := h4
  exact ⟨A, l, c, e1, h1, h2, h3, by show l.length ≤ 281474976710656; omega⟩
instance : Inhabited J := ⟨z25⟩
set_option maxRecDepth 100000 in
theorem open_cells {W : World} : ∀ (n : Nat) (cs : List Value) (x : DataW H × List MemPlace), DataW.trod enc Tryd.prog W 0 (fun _ => true) true n 25 cs = some x → (∀ k ∈ x.1.weights Tryd.prog 25, k ≤ lim) → cs.length = 4 ∧ ∃ v : J, k25.K W v cs ∧ Bd lim limL v := by
  intro n
  induction n using Nat.strongRecOn with
  | _ n ih =>
  intro cs x h hw
  obtain ⟨xs, m, rfl, rfl, hcl, hxl, hall⟩ := DataW.trod_struct Tryd.underlying25 h
  rw [show Tryd.prog.cellsOf 25 = 4 by kernel_rfl] at hcl
  obtain ⟨c0, c1, c2, c3, rfl⟩ : ∃ c0 c1 c2 c3, cs = [c0, c1, c2, c3] := by
    match cs, hcl with
    | [c0, c1, c2, c3], _ => exact ⟨c0, c1, c2, c3, rfl⟩
  obtain ⟨y0, y1, y2, y3, rfl⟩ : ∃ y0 y1 y2 y3, xs = [y0, y1, y2, y3] := by
    match xs, hxl with
    | [c0, c1, c2, c3], _ => exact ⟨c0, c1, c2, c3, rfl⟩
  have k1 : Tryd.prog.cellsOf 3 = 1 := by kernel_rfl
  have k2 : Tryd.prog.cellsOf 9 = 1 := by kernel_rfl
  have k3 : Tryd.prog.cellsOf 22 = 1 := by kernel_rfl
  have k4 : Tryd.prog.cellsOf 23 = 1 := by kernel_rfl
  have h0 : DataW.trod enc Tryd.prog W 0 (fun _ => true) true m 3 [c0] = some y0 := by have := hall 0 _ rfl; simpa [k1] using this
  have h1 : DataW.trod enc Tryd.prog W 0 (fun _ => true) true m 9 [c1] = some y1 := by have := hall 1 _ rfl; simpa [k2] using this
  have h2 : DataW.trod enc Tryd.prog W 0 (fun _ => true) true m 22 [c2] = some y2 := by have := hall 2 _ rfl; simpa [k3] using this
  have h3 : DataW.trod enc Tryd.prog W 0 (fun _ => true) true m 23 [c3] = some y3 := by have := hall 3 _ rfl; simpa [k4] using this
  simp only [DataW.weights, Tryd.underlying25, DataW.weightsEach, List.map_cons, List.map_nil, List.mem_append, List.mem_cons, List.not_mem_nil, or_false] at hw
  obtain ⟨i, e0, x0, _⟩ := DataW.trod_int Tryd.underlying3 h0
  obtain ⟨s, e1, w1⟩ := open_str h1 (fun k hk => hw k (.inr (.inl hk)))
  obtain ⟨A2, l2, q2, e2, g2, C2, S2, L2⟩ := open_strs h2 (fun k hk => hw k (.inr (.inr (.inl hk))))
  obtain ⟨A3, l3, q3, e3, g3, C3, S3, L3⟩ := open_row (H := H) (enc := enc) k25 Tryd.underlying23 (by kernel_rfl) (fun v => Bd lim limL v) (fun n' cs x hn' hx hk => ih n' (by omega) cs x hx hk) h3 (fun k hk => hw k (.inr (.inr (.inr hk))))
  rw [show Tryd.prog.bytesOf 25 = 72 by kernel_rfl] at L3
  simp only [List.cons.injEq, and_true] at e0 e1
  subst e0 e1 e2 e3
  exact ⟨rfl, ⟨i, s, l2, l3⟩, k25_mk W ⟨i, s, l2, l3⟩ g2 C2 g3 C3, .mk i s l2 l3 w1 S2 L2 (by have h4' : l3.length * 72 ≤ 140737488351232 := L3; show l3.length ≤ 281474976710656; omega) S3⟩
set_option maxRecDepth 100000 in
theorem open_json {W : World} {r : Reach} {b0 : Nat} {v : Value} {d : DataW H} {p : List MemPlace} (hv : Value.okWide Tryd.prog W r b0 25 v) (h : DataW.Trod enc Tryd.prog W 0 (fun _ => true) true 25 v d p)
    (hw : ∀ k ∈ d.weights Tryd.prog 25, k ≤ lim) :
    ∃ (j : J) (A2 A3 : Option Addr) (c2 c3 : Nat), v = .agg #[.int .i64 j.f0, .string j.f1, .slice A2 j.f2.length c2, .slice A3 j.f3.length c3] ∧ j.f2.length ≤ c2 ∧ Kd.C Kd.string W A2 j.f2.length j.f2 ∧ j.f3.length ≤ c3 ∧ Kd.C k25 W A3 j.f3.length j.f3 ∧ Bd lim limL j := by
  obtain ⟨cs, rfl, hsz⟩ := okWide_struct Tryd.underlying25 hv
  obtain ⟨fuel, hf⟩ := h
  obtain ⟨hcl, j, hK, hB⟩ := open_cells fuel _ _ hf hw
  obtain ⟨A2, c2, A3, c3, e, l2, g2, l3, g3⟩ := k25_open hK
  obtain rfl : cs = #[.int .i64 j.f0, .string j.f1, .slice A2 j.f2.length c2, .slice A3 j.f3.length c3] := Array.ext' e
  exact ⟨j, A2, A3, c2, c3, rfl, l2, g2, l3, g3, hB⟩
end Go.Proofs.YtaalajhmfdcalaaDoor.X
namespace Go.Proofs.YtaalajhmfdcalaaDoor.X
open Go.RowKit Go.Lib
set_option maxRecDepth 100000 in
theorem first_eq : Rows.laid_unicode_utf8_first = firstData := by kernel_rfl
set_option maxRecDepth 100000 in
theorem accept_eq : (Rows.laid_unicode_utf8_acceptRanges : DataW Unit) = acceptData := by kernel_rfl
theorem words_of {W : World} (h : VarReads Tryd.prog W "wicket/jtext.words" Rows.laid_wicket_jtext_words) : GLw W := by
  obtain ⟨g, t, cs, fuel, p, hg, hty, hvar, hd⟩ := h
  obtain rfl : 0 = g := Option.some.inj ((show Tryd.prog.globalNamed "wicket/jtext.words" = some 0 by kernel_rfl).symm.trans hg)
  obtain rfl : 104 = t := Option.some.inj ((show (Tryd.prog.globals[0]?).map (·.type) = some 104 by kernel_rfl).symm.trans hty)
  have key : ∀ (i : Nat), i < 3 → ∀ l : List UInt8, (([.lit (.string [110, 117, 108, 108]), .lit (.string [102, 97, 108, 115, 101]), .lit (.string [116, 114, 117, 101])] : List (DataW Unit))[i]? = some (.lit (.string l))) → W.cell? ⟨0, i, none⟩ = some (.string ⟨l.toArray⟩) := by
    intro i hi l hl
    obtain ⟨fuel', d, q, hdi, he⟩ := array_elem Tryd.underlying104 hd i hi
    rw [hl] at hdi
    injection hdi with hdi
    subst hdi
    rw [show Tryd.prog.cellsOf 9 = 1 by kernel_rfl] at he
    obtain ⟨s, hcs, hs, _⟩ := DataW.trod_string Tryd.underlying9 he
    injection hs with hs _
    injection hs with hs
    injection hs with hs
    have e0 := congrArg (·[0]?) hcs
    simp only [List.getElem?_take, List.getElem?_drop] at e0
    rw [World.var?_cell hg hvar i, ← Array.getElem?_toList]
    have e1 : s = ⟨l.toArray⟩ := by
      apply ByteArray.ext
      apply Array.ext'
      rw [hs]
    rw [← e1]
    simpa using e0
  exact ⟨key 0 (by omega) _ rfl, key 1 (by omega) _ rfl, key 2 (by omega) _ rfl⟩
theorem GL_of {W : World} (hL : laidMetH Tryd.prog Rows.jtextFirstRow.laid W) : GL W := by
  rw [MakeChecks.laidMetH_plain _ _ _ (by kernel_rfl)] at hL
  have h1 := laidMet.reads hL (n := "unicode/utf8.acceptRanges") (d := Rows.laid_unicode_utf8_acceptRanges) (.head _)
  have h2 := laidMet.reads hL (n := "wicket/jtext.words") (d := Rows.laid_wicket_jtext_words) (.tail _ (.head _))
  have h3 := laidMet.reads hL (n := "unicode/utf8.first") (d := Rows.laid_unicode_utf8_first) (.tail _ (.tail _ (.head _)))
  rw [first_eq] at h3
  rw [accept_eq] at h1
  exact ⟨words_of h2, utf8Tabs_of_readsT (U8Types.of196 Tryd.lays196) ⟨by kernel_rfl, by kernel_rfl, by kernel_rfl, by kernel_rfl, by kernel_rfl, by kernel_rfl, by kernel_rfl⟩ h3 h1⟩
end Go.Proofs.YtaalajhmfdcalaaDoor.X
namespace Go.Proofs.YtaalajhmfdcalaaDoor.X
end Go.Proofs.YtaalajhmfdcalaaDoor.X
