/- The plain law of HttpHead. -/
import Derived.Test.YtmfkgjnlobiobaaDoorX4
import Derived.Test.YtmfkgjnlobiobaaDoorMt
namespace Go.Proofs.YtmfkgjnlobiobaaDoor.X
open Go.RowKit Go.Shelf Go.Proofs.YtmfkgjnlobiobaaDoorW.PrintWords
set_option maxRecDepth 100000 in
theorem HttpHead_f (m t : ByteArray) (l : List S71) (b0 b : ByteArray) (hl : ∀ f ∈ l, f.f0.size ≤ 140737488351232) (hb : b.size ≤ 140737488351232) :
    wicketlaw15_HttpHead.f 40 m t l b0 b = some true := by
  unfold wicketlaw15_HttpHead.f
  rw [PrintRequest_f m t l _ hl (by show 0 ≤ _; omega), PrintRequest_f m t l b hl hb, live_f]
  simp only [Option.bind_some, wicketlaw15_num.f]
  rw [if_pos trivial]
  show (if (reqF m.data.toList t.data.toList (pairsL l) []).2 = 0 then _ else _) = _
  have hbl := size_data b
  rcases reqF_two m.data.toList t.data.toList (pairsL l) with ⟨c, hc, h⟩ | ⟨pre, h⟩
  · have e1 := h []
    have e2 := h b.data.toList
    rw [e1, e2]
    rw [if_neg hc]
    simp only [wicketlaw15_HttpHead.j0, if_true, wicketlaw15_num.f, Option.bind_some]
    rw [if_neg hc]
  · have e1 := h []
    have e2 := h b.data.toList
    have hc0 : clF [] = [] := rfl
    rw [hc0] at e1
    simp only [List.append_nil, List.length_nil, Nat.add_zero] at e1
    by_cases c1 : (pre ++ [13, 10]).length > 32768
    · rw [if_pos c1] at e1
      rw [if_pos (by simp only [List.length_append] at c1 ⊢; omega)] at e2
      rw [e1, e2]
      rfl
    · rw [if_neg c1] at e1
      by_cases c2 : (pre ++ clF b.data.toList ++ [13, 10]).length + b.data.toList.length > 32768
      · rw [if_pos c2] at e2
        rw [e1, e2]
        rfl
      · rw [if_neg c2] at e2
        rw [e1, e2]
        show wicketlaw15_HttpHead.j0 40 b (bs (pre ++ [13, 10])) 0 (bs (pre ++ clF b.data.toList ++ [13, 10] ++ b.data.toList)) 0 false = some true
        simp only [wicketlaw15_HttpHead.j0]
        rw [if_neg (by decide), toList_data]
        by_cases hb0 : b.data.toList = []
        · rw [if_pos hb0, hb0, hc0]
          simp
        · rw [if_neg hb0]
          obtain ⟨cl, hcl⟩ : ∃ cl, clF b.data.toList = cl ++ [13, 10] := by
            unfold clF
            rw [if_neg hb0]
            exact ⟨sCL ++ [58, 32] ++ Lib.itoa b.data.toList.length, by simp⟩
          rw [hcl] at c2 ⊢
          simp only [List.length_append, List.length_cons, List.length_nil] at c1 c2
          rw [hbl] at c2
          have zs : ((bs (pre ++ [13, 10])).size : Int) = pre.length + 2 := by rw [bs_size]; simp
          have zt : ((bs (pre ++ (cl ++ [13, 10]) ++ [13, 10] ++ b.data.toList)).size : Int) = pre.length + cl.length + 4 + b.size := by
            rw [bs_size]
            simp only [List.length_append, List.length_cons, List.length_nil, hbl]
            omega
          have w1 : wrap64 (((bs (pre ++ [13, 10])).size : Int) - 2) = (pre.length : Int) := by rw [zs, wr _ (by omega)]; omega
          have w2 : wrap64 (((bs (pre ++ (cl ++ [13, 10]) ++ [13, 10] ++ b.data.toList)).size : Int) - (b.size : Int)) = ((pre.length + cl.length + 4 : Nat) : Int) := by rw [zt, wr _ (by omega)]; omega
          have w3 : wrap64 (((pre.length + cl.length + 4 : Nat) : Int) - 4) = ((pre.length + cl.length : Nat) : Int) := by rw [wr _ (by omega)]; omega
          rw [w1, w2, w3, zt, zs]
          rw [if_pos (by omega), if_pos (by omega), if_pos (by omega), if_pos (by omega), Int.toNat_natCast, Int.toNat_natCast]
          rw [toList_ext, toList_ext, data_bs, data_bs]
          rw [if_pos (by simp), if_pos (by omega), if_pos (by omega), if_pos (by omega)]
          rw [toList_ext, toList_data, data_bs]
          congr 1
          rw [beq_iff_eq]
          have hN : (bs (pre ++ (cl ++ [13, 10]) ++ [13, 10] ++ b.data.toList)).size = pre.length + cl.length + 4 + b.size := by omega
          rw [hN, show pre.length + cl.length + 4 + b.size - (pre.length + cl.length) = 4 + b.size by omega]
          rw [show pre ++ (cl ++ [13, 10]) ++ [13, 10] ++ b.data.toList = (pre ++ cl) ++ ([13, 10, 13, 10] ++ b.data.toList) by simp]
          rw [List.drop_left' (by simp), List.take_of_length_le (by simp [hbl]; omega)]
          simp [ByteArray.data_append]
end Go.Proofs.YtmfkgjnlobiobaaDoor.X
