/- 'lines(raw, from)' of package http: the lines of a text from a place on, as a list; what the iterator hands over. -/
import Derived.Test.YtmfkgjnlobiobaaGreatDoorR
import Derived.Test.YtmfkgjnlobiobaaGreatDoorE3
import Derived.RangeFuncBound
import Derived.RangeFuncCalls
import Derived.RangeFuncLeaves
import Derived.Shelf.RegionOpen
import Derived.OwnWalkIn
import Derived.TacticsInMore
import Derived.LoopNIn
import Derived.LoopIn
import Derived.Stop.RegionWithIn
import Derived.WideShapes
import Derived.OneCell
namespace Go.Proofs.YtmfkgjnlobiobaaGreatDoor.X
open Go.RowKit Go.Shelf Go.Proofs.YtmfkgjnlobiobaaGreatDoorW.PrintWords
attribute [local go_sem] Oper.semAt_some
def crlf : List UInt8 := [13, 10]
def linesL : Nat → List UInt8 → Nat → List (Nat × List UInt8)
  | 0, _, _ => []
  | k + 1, l, pos => if Lib.index l crlf < 0 then [(pos, [10])] else (pos, l.take (Lib.index l crlf).toNat) :: linesL k (l.drop ((Lib.index l crlf).toNat + 2)) (pos + (Lib.index l crlf).toNat + 2)
def encL (x : Nat × List UInt8) : Array Value := #[.int .i64 x.1, .string (bs x.2)]
def KpL (B b1 b2 : Nat) (W W' : World) : Prop := W'.heap[b1]? = W.heap[b1]? ∧ W'.heap[b2]? = W.heap[b2]? ∧ Below B W W'
def leftL (raw : ByteArray) (b2 : Nat) (wr : World) : Nat := match wr.cell? ⟨b2, 0, none⟩ with
  | some (.int _ n) => raw.size + 2 - n.toNat
  | _ => 0
structure LinesW (wb : World) (raw : ByteArray) (b1 b2 : Nat) (J : Nat → World → Prop) (ls : List (Nat × List UInt8)) (i pos : Nat) (wr : World) : Prop where
  le : pos ≤ raw.size
  rest : ∃ k, raw.size - pos < k ∧ ls.drop i = linesL k (raw.data.toList.drop pos) pos
  held : J i wr
  c1 : wr.heap[b1]? = some (.cells #[.string raw] 9 (0, 0))
  c2 : wr.heap[b2]? = some (.cells #[.int .i64 pos] 3 (0, 0))
  gl : Below wb.heap.size wb wr
theorem List.getElem?_drop_zero' {α : Type} {l : List α} {i : Nat} {x : α} {r : List α} (h : l.drop i = x :: r) : some x = l[i]? := by
  have : (l.drop i)[0]? = some x := by rw [h]; rfl
  rw [List.getElem?_drop, Nat.add_zero] at this
  exact this.symm
theorem pack_bool {A B : Prop} {e : Ending} (h : e = .returned (.bool true) ∧ A ∨ e = .returned (.bool false) ∧ B) : ∃ b, e = .returned (.bool b) ∧ (b = true ∧ A ∨ b = false ∧ B) := by
  rcases h with ⟨h, ha⟩ | ⟨h, hb⟩
  · exact ⟨true, h, .inl ⟨rfl, ha⟩⟩
  · exact ⟨false, h, .inr ⟨rfl, hb⟩⟩
set_option maxHeartbeats 2000000 in
set_option maxRecDepth 100000 in
theorem lines_seq (n : Nat) (hn : 1 ≤ n) (raw : ByteArray) (hraw : raw.size < 4294967281) (b1 b2 from_ : Nat) (hf : from_ ≤ raw.size) (hne : b1 ≠ b2) (wb w : World) (hb1 : b1 < w.heap.size) (hb2 : b2 < w.heap.size) (hbw : wb.heap.size ≤ b2) (hG : GL wb) (hW0 : Below wb.heap.size wb w)
    (h1 : w.heap[b1]? = some (.cells #[.string raw] 9 (0, 0))) (h2 : w.heap[b2]? = some (.cells #[.int .i64 from_] 3 (0, 0))) :
    SeqL Fence.wide n Tryz.prog 83 #[.pointer (some ⟨b1, 0, none⟩), .pointer (some ⟨b2, 0, none⟩)] ((linesL (raw.size + 1) (raw.data.toList.drop from_) from_).map encL) (KpL wb.heap.size b1 b2) b2 w := by
  intro l J Jx W hW hJ hJx hY h0
  have H0 := Aside0.mk (show LinesW wb raw b1 b2 J (linesL (raw.size + 1) (raw.data.toList.drop from_) from_) 0 from_ W from
    ⟨hf, ⟨raw.size + 1, by omega, rfl⟩, h0, (hW.block b1 hb1).trans h1, (hW.block b2 hb2).trans h2, hW0.trans (hW.mono hW0.size)⟩)
  obtain ⟨ls, hls⟩ : ∃ ls, ls = linesL (raw.size + 1) (raw.data.toList.drop from_) from_ := ⟨_, rfl⟩
  rw [← hls] at hY H0 ⊢
  clear hls h1 h2 hW h0 hW0
  refine callsIn_of_wp Tryz.func83 rfl trivial ?_ rfl
  simp only [Tryz.ntmps83, List.size_toArray, List.length_cons, List.length_nil, Nat.reduceAdd, Nat.reduceSub, Array.replicate_succ, Array.replicate_zero, List.push_toArray, List.append_toArray, List.nil_append, List.cons_append]
  have HY := Aside0.mk hY
  have HJ := Aside0.mk hJ
  have HJx := Aside0.mk hJx
  clear hY hJ hJx
  gi_wp2
  gi_loopw [4] (fun _ wr => ∃ i pos : Nat, LinesW wb raw b1 b2 J ls i pos wr) (fun _ wr => leftL raw b2 wr)
  case atStart => exact ⟨0, from_, H0.out⟩
  case round =>
    obtain ⟨i, pos, hS⟩ := hrel
    have HS := Aside0.mk hS
    clear hS H0
    have d1 := blk_cell HS.out.c1 0
    have d2 := blk_cell HS.out.c2 0
    dsimp at d1 d2
    have hle := HS.out.le
    have hx : (raw.extract pos raw.size).data.toList = raw.data.toList.drop pos := Lib.extract_to_end raw pos
    have hlen : (raw.data.toList.drop pos).length = raw.size - pos := by rw [List.length_drop, size_data]
    have hroom := Lib.index_room (raw.data.toList.drop pos) crlf
    have hge := Lib.index_ge (raw.data.toList.drop pos) crlf
    have HI := Aside0.mk (show strings_Index.f (raw.extract pos raw.size) ⟨#[13, 10]⟩ = some (Lib.index (raw.data.toList.drop pos) crlf) by
      unfold strings_Index.f
      rw [if_pos (by rw [← size_data, hx, hlen]; omega), hx]; rfl)
    obtain ⟨k, hk, hrest⟩ := HS.out.rest
    obtain ⟨k, rfl⟩ : ∃ m, k = m + 1 := ⟨k - 1, by omega⟩
    rw [linesL] at hrest
    rw [hlen] at hroom
    obtain ⟨ix, hix⟩ : ∃ ix, ix = Lib.index (raw.data.toList.drop pos) crlf := ⟨_, rfl⟩
    rw [← hix] at hrest HI hroom hge
    have hc2 : crlf.length = 2 := rfl
    rw [hc2] at hroom
    have HR := Aside0.mk hrest
    clear hix hx hlen hrest hc2
    by_cases hneg : ix < 0
    · have HR1 := Aside0.mk (show ls.drop i = [(pos, [10])] by rw [HR.out, if_pos hneg])
      have hxi : (ls.map encL)[i]? = some (encL (pos, [10])) := by
        rw [List.getElem?_map, ← List.getElem?_drop_zero' HR1.out]; rfl
      obtain ⟨fn, tmps, assign, body, hy, hR⟩ := HY.out i _ wr hxi HS.out.held
      have HRn := Aside0.mk hR
      dsimp only [encL, bs] at hy
      clear hR hxi
      gi_wp2_with (first | (refine ⟨trivial, ?_⟩; gi_at_call 84; (with_reducible refine (callsIn_wide.2 (strings_Index.calls _ _ _ _ (GL_below hG HS.out.gl) HI.out)).mono ?_); rintro e w' ⟨rfl, rfl⟩))
      refine HRn.out.mono ?_
      have HL := Aside0.mk (show ls.length = i + 1 by
        have := congrArg List.length HR1.out
        rw [List.length_drop] at this
        simp only [List.length_cons, List.length_nil] at this
        omega)
      rintro e W3 (⟨rfl, hJ3, _⟩ | ⟨rfl, hJx3⟩)
      · have HJ3 := Aside0.mk hJ3
        clear hJ3
        gi_wp2
        refine bodyPost_ret (results_none rfl _ _ _) rfl ?_
        exact ⟨⟨_, rfl⟩, .inl (by rw [List.length_map, HL.out]; exact HJ3.out)⟩
      · have HJ3 := Aside0.mk hJx3
        clear hJx3
        gi_wp2
        refine bodyPost_ret (results_none rfl _ _ _) rfl ?_
        exact ⟨⟨_, rfl⟩, .inr ⟨i, HJ3.out⟩⟩
    · obtain ⟨m, rfl⟩ := Int.eq_ofNat_of_zero_le (show 0 ≤ ix by omega)
      have hroom' : m + 2 ≤ raw.size - pos := by have := hroom (by omega); omega
      have HR1 := Aside0.mk (show ls.drop i = (pos, (raw.data.toList.drop pos).take m) :: linesL k ((raw.data.toList.drop pos).drop (m + 2)) (pos + m + 2) by rw [HR.out, if_neg hneg, Int.toNat_natCast])
      have hwr : IntKind.i64.wrap (↑pos + ↑m) = ((pos + m : Nat) : Int) := by rw [IntKind.wrap_i64]; omega
      have hwr1 : 0 ≤ IntKind.i64.wrap (↑pos + ↑m) ∧ IntKind.i64.wrap (↑pos + ↑m) ≤ ↑raw.size := by omega
      have hwr2 : (pos : Int) ≤ IntKind.i64.wrap (↑pos + ↑m) := by omega
      have hpiece : bs ((raw.data.toList.drop pos).take m) = raw.extract pos (IntKind.i64.wrap (↑pos + ↑m)).toNat := by
        rw [hwr, Int.toNat_natCast]
        apply Go.WideShapes.bytes_inj
        rw [Lib.extract_data, show pos + m - pos = m by omega]; rfl
      have hxi : (ls.map encL)[i]? = some (encL (pos, (raw.data.toList.drop pos).take m)) := by
        rw [List.getElem?_map, ← List.getElem?_drop_zero' HR1.out]; rfl
      obtain ⟨fn, tmps, assign, body, hy, hR⟩ := HY.out i _ wr.drew hxi (HJ.out.drew _ _ 1 HS.out.held)
      dsimp only [encL] at hy
      rw [hpiece] at hy
      have HRn := Aside0.mk hR
      clear hR hxi hpiece hneg hroom hge hwr
      gi_wp2_with (first | (refine ⟨trivial, ?_⟩; gi_at_call 84; (with_reducible refine (callsIn_wide.2 (strings_Index.calls _ _ _ _ (GL_below hG HS.out.gl) HI.out)).mono ?_); rintro e w' ⟨rfl, rfl⟩))
      gi_region_with (refine HRn.out.mono ?_; rintro e W3 hp; replace hp := pack_bool hp; obtain ⟨b, rfl, hp⟩ := hp)
      all_goals
        rcases hp with ⟨rfl, hJ3, hk1, hk2, hk3⟩ | ⟨rfl, hJx3⟩
        · have e1 : W3.heap[b1]? = some (.cells #[.string raw] 9 (0, 0)) := hk1.trans HS.out.c1
          have e2 : W3.heap[b2]? = some (.cells #[.int .i64 pos] 3 (0, 0)) := hk2.trans HS.out.c2
          have HJ3 := Aside0.mk hJ3
          have HK3 := Aside0.mk ((below_drewN HS.out.gl 1).trans hk3)
          have HM := Aside0.mk (show leftL raw b2 w' = raw.size + 2 - pos by simp [leftL, d2])
          clear hJ3 hk1 hk2 hk3 hwr1 hwr2 d1 d2
          have d2 := cell_of_one e2
          have d3 := free_of_one e2
          have E1 := Aside0.mk e1
          have E2 := Aside0.mk e2
          clear e1 e2
          gi_wp2
          refine ⟨⟨i + 1, pos + m + 2, ?_⟩, ?_⟩
          · have e2 := one_setCell (u := .int .i64 (pos + (m + 2))) E2.out
            refine ⟨by omega, ⟨k, by omega, ?_⟩, HJ.out.set _ _ _ HJ3.out, ?_, ?_, HK3.out.setCell hbw _⟩
            · have := congrArg (List.drop 1) HR1.out
              rw [List.drop_drop, List.drop_succ_cons, List.drop_zero] at this
              rw [this, List.drop_drop, Nat.add_assoc]
            · rw [Below.heap_setCell _ _ _ _ hne]; exact E1.out
            · rw [e2]; congr 3
          · rw [HM.out]
            have e2 := one_setCell (u := .int .i64 (pos + (m + 2))) E2.out
            simp only [leftL, cell_of_one e2]
            omega
        · have HJ3 := Aside0.mk hJx3
          clear hJx3
          gi_wp2
          refine bodyPost_ret (results_none rfl _ _ _) rfl ?_
          exact ⟨⟨_, rfl⟩, .inr ⟨i, HJ3.out⟩⟩
end Go.Proofs.YtmfkgjnlobiobaaGreatDoor.X
