/- The texts of this work, put together: K36, K37, K38, K39, K40, M8, E0, E1, M9, L0, L4, E2, MB, K41, K42, K45, N1, N2, N3, K43, K44, K46, K47, E3, N4, L1, MT, N61, N62, N63, K61. -/
import Derived.Test.YtaalajhmfdcalaaDoorBq3
import Derived.Test.YtaalajhmfdcalaaDoorBq0
import Derived.Test.YtaalajhmfdcalaaDoorBq1
import Derived.Test.YtaalajhmfdcalaaDoorBq2
set_option linter.unusedVariables false
set_option linter.unusedSimpArgs false
namespace Go.Proofs.YtaalajhmfdcalaaDoor.X
open Go.RowKit Go.Lib Go.Proofs.YtaalajhmfdcalaaDoorW.PrintWords Go.Proofs.YtaalajhmfdcalaaDoorW.PrintLast Go.Proofs.YtaalajhmfdcalaaDoorW.PrintMore
def Gl (Wd : Nat) (W : World) : Prop := ∀ W', Below Wd W W' → GLw W' ∧ Tabs W'
theorem Gl.on {Wd : Nat} {sl sl' : Value} {W W' : World} (h : Gl Wd W) (ho : WrOn Wd sl sl' W W') : Gl Wd W' := fun W2 h2 => h W2 (ho.low.trans h2)
theorem Gl.below {Wd : Nat} {W W' : World} (h : Gl Wd W) (hb : Below W.heap.size W W') (hW : Wd ≤ W.heap.size) : Gl Wd W' := fun W2 h2 => h W2 ((hb.mono hW).trans h2)
theorem Gl.words {Wd : Nat} {W : World} (h : Gl Wd W) : GLw W := (h W (Below.refl _ _)).1
theorem Gl.tabs {Wd : Nat} {W : World} (h : Gl Wd W) : Tabs W := (h W (Below.refl _ _)).2
def okW (Wd : Nat) (sl : Value) (k : Nat) : Prop := k ≠ Wd ∧ some k ≠ sl.ownBlock
theorem F_on {α : Type} {d : Kd α} {Wd n : Nat} {sl sl' : Value} {W W' : World} {A : Option Addr} {xs : List α} (h : Kd.F d W (okW Wd sl) A n xs) (ho : WrOn Wd sl sl' W W') : Kd.F d W' (okW Wd sl') A n xs :=
 Kd.F_mono (Kd.F_step (Kd.F_bound h) (fun k hk hlt => ho.kept k hlt hk.1.1 hk.1.2)) (fun k hk => ⟨hk.1.1, ho.ne hk.2 hk.1.2⟩)
def VEnds (Wd : Nat) (free canon : Bool) (st : St) (sl : Value) (W : World) (wt : Nat) (tg : St) (x : Ending) (W' : World) : Prop :=
 x = .returned (.tuple #[]) ∧ ∃ st' sl', Sm canon st' tg ∧ (∀ n, Fit free st (wt + n) → Fit free st' n) ∧ Wr Wd free st' sl' W' ∧ WrOn Wd sl sl' W W'
theorem VEnds.of {Wd : Nat} {free canon : Bool} {st st' tg : St} {sl sl' : Value} {W w0 w1 : World} {wt : Nat} (hb : Below W.heap.size W w0) (hW : Wd ≤ W.heap.size) (ho : WrOn Wd sl sl' w0 w1) (hw : Wr Wd free st' sl' w1) (hs : Sm canon st' tg) (hf : ∀ n, Fit free st (wt + n) → Fit free st' n) :
  VEnds Wd free canon st sl W wt tg (.returned (.tuple #[])) w1 :=
 ⟨rfl, st', sl', hs, hf, hw, (WrOn.of_below hW hb).trans ho⟩
theorem node_no (f0 : Int) (f1 : ByteArray) (A2 A3 : Option Addr) (n2 c2 n3 c3 : Nat) (W : World) (hz : f1.size ≤ 9223372036854775806) (hG : GLw W) (hT : Tabs W) (hok : nodeOK f0 f1 n2 n3 = false) :
  Calls Tryd.prog 51 #[jVal f0 f1 A2 A3 n2 c2 n3 c3] W fun x W' => (∃ nv, x = .returned (.tuple #[nv, .bool false])) ∧ Below W.heap.size W W' := by
 by_cases h0 : f0 = 0
 ·subst h0; refine (node0 f1 A2 A3 n2 c2 n3 c3 W hG).mono ?_; rintro e w' ⟨rfl, hb⟩; rw [hok]; exact ⟨⟨_, rfl⟩, hb⟩
 by_cases h1 : f0 = 1
 ·subst h1; refine (node1 f1 A2 A3 n2 c2 n3 c3 W hG).mono ?_; rintro e w' ⟨rfl, hb⟩; rw [hok]; exact ⟨⟨_, rfl⟩, hb⟩
 by_cases h2 : f0 = 2
 ·subst h2; refine (node2 f1 A2 A3 n2 c2 n3 c3 W hG).mono ?_; rintro e w' ⟨rfl, hb⟩; rw [hok]; exact ⟨⟨_, rfl⟩, hb⟩
 by_cases h3 : f0 = 3
 ·subst h3; refine (node3 f1 A2 A3 n2 c2 n3 c3 W hz).mono ?_; rintro e w' ⟨rfl, hb⟩; rw [hok]; exact ⟨⟨_, rfl⟩, hb⟩
 by_cases h4 : f0 = 4
 ·subst h4; refine (node4 f1 A2 A3 n2 c2 n3 c3 W hz hT).mono ?_; rintro e w' ⟨rfl, hb⟩; rw [hok]; exact ⟨⟨_, rfl⟩, hb⟩
 by_cases h5 : f0 = 5
 ·subst h5; refine (node5 f1 A2 A3 n2 c2 n3 c3 W).mono ?_; rintro e w' ⟨rfl, hb⟩; rw [hok]; exact ⟨⟨_, rfl⟩, hb⟩
 by_cases h6 : f0 = 6
 ·subst h6; refine (node6 f1 A2 A3 n2 c2 n3 c3 W).mono ?_; rintro e w' ⟨rfl, hb⟩; rw [hok]; exact ⟨⟨_, rfl⟩, hb⟩
 refine (nodeX f0 h0 h1 h2 h3 h4 h5 h6 f1 A2 A3 n2 c2 n3 c3 W).mono ?_; rintro e w' ⟨rfl, hb⟩; rw [hok]; exact ⟨⟨_, rfl⟩, hb⟩
theorem node_yes0 (f1 : ByteArray) (A2 A3 : Option Addr) (n2 c2 n3 c3 : Nat) (W : World) (hG : GLw W) (hok : nodeOK 0 f1 n2 n3 = true) :
  Calls Tryd.prog 51 #[jVal 0 f1 A2 A3 n2 c2 n3 c3] W fun x W' => x = .returned (.tuple #[.iface 78 (.agg #[.string (wordB 0)]), .bool true]) ∧ Below W.heap.size W W' := by
 refine (node0 f1 A2 A3 n2 c2 n3 c3 W hG).mono ?_
 rintro e w' ⟨rfl, hb⟩
 rw [hok]
 exact ⟨rfl, hb⟩
theorem node_yes1 (f1 : ByteArray) (A2 A3 : Option Addr) (n2 c2 n3 c3 : Nat) (W : World) (hG : GLw W) (hok : nodeOK 1 f1 n2 n3 = true) :
  Calls Tryd.prog 51 #[jVal 1 f1 A2 A3 n2 c2 n3 c3] W fun x W' => x = .returned (.tuple #[.iface 78 (.agg #[.string (wordB 1)]), .bool true]) ∧ Below W.heap.size W W' := by
 refine (node1 f1 A2 A3 n2 c2 n3 c3 W hG).mono ?_
 rintro e w' ⟨rfl, hb⟩
 rw [hok]
 exact ⟨rfl, hb⟩
theorem node_yes2 (f1 : ByteArray) (A2 A3 : Option Addr) (n2 c2 n3 c3 : Nat) (W : World) (hG : GLw W) (hok : nodeOK 2 f1 n2 n3 = true) :
  Calls Tryd.prog 51 #[jVal 2 f1 A2 A3 n2 c2 n3 c3] W fun x W' => x = .returned (.tuple #[.iface 78 (.agg #[.string (wordB 2)]), .bool true]) ∧ Below W.heap.size W W' := by
 refine (node2 f1 A2 A3 n2 c2 n3 c3 W hG).mono ?_
 rintro e w' ⟨rfl, hb⟩
 rw [hok]
 exact ⟨rfl, hb⟩
theorem node_yes3 (f1 : ByteArray) (A2 A3 : Option Addr) (n2 c2 n3 c3 : Nat) (W : World) (hz : f1.size ≤ 9223372036854775806) (hok : nodeOK 3 f1 n2 n3 = true) :
  Calls Tryd.prog 51 #[jVal 3 f1 A2 A3 n2 c2 n3 c3] W fun x W' => x = .returned (.tuple #[.iface 78 (.agg #[.string f1]), .bool true]) ∧ Below W.heap.size W W' := by
 refine (node3 f1 A2 A3 n2 c2 n3 c3 W hz).mono ?_
 rintro e w' ⟨rfl, hb⟩
 rw [hok]
 exact ⟨rfl, hb⟩
theorem node_yes4 (f1 : ByteArray) (A2 A3 : Option Addr) (n2 c2 n3 c3 : Nat) (W : World) (hz : f1.size ≤ 9223372036854775806) (hT : Tabs W) (hok : nodeOK 4 f1 n2 n3 = true) :
  Calls Tryd.prog 51 #[jVal 4 f1 A2 A3 n2 c2 n3 c3] W fun x W' => x = .returned (.tuple #[.iface 80 (.agg #[.string f1]), .bool true]) ∧ Below W.heap.size W W' := by
 refine (node4 f1 A2 A3 n2 c2 n3 c3 W hz hT).mono ?_
 rintro e w' ⟨rfl, hb⟩
 rw [hok]
 exact ⟨rfl, hb⟩
theorem node_yes5 (f1 : ByteArray) (A2 A3 : Option Addr) (n2 c2 n3 c3 : Nat) (W : World) (hok : nodeOK 5 f1 n2 n3 = true) :
  Calls Tryd.prog 51 #[jVal 5 f1 A2 A3 n2 c2 n3 c3] W fun x W' => x = .returned (.tuple #[.iface 82 (.agg #[.slice A3 n3 c3]), .bool true]) ∧ Below W.heap.size W W' := by
 refine (node5 f1 A2 A3 n2 c2 n3 c3 W).mono ?_
 rintro e w' ⟨rfl, hb⟩
 rw [hok]
 exact ⟨rfl, hb⟩
theorem node_yes6 (f1 : ByteArray) (A2 A3 : Option Addr) (n2 c2 n3 c3 : Nat) (W : World) (hok : nodeOK 6 f1 n2 n3 = true) :
  Calls Tryd.prog 51 #[jVal 6 f1 A2 A3 n2 c2 n3 c3] W fun x W' => x = .returned (.tuple #[.iface 84 (.agg #[.slice A2 n2 c2, .slice A3 n3 c3]), .bool true]) ∧ Below W.heap.size W W' := by
 refine (node6 f1 A2 A3 n2 c2 n3 c3 W).mono ?_
 rintro e w' ⟨rfl, hb⟩
 rw [hok]
 exact ⟨rfl, hb⟩
theorem is_78 (v : Value) (w : World) : (Instr.typeAssert (.iface 78 v) 74 78 true).run Tryd.prog w = .ok (.tuple #[v, .bool true]) w := by kernel_rfl
theorem is_80 (v : Value) (w : World) : (Instr.typeAssert (.iface 80 v) 74 80 true).run Tryd.prog w = .ok (.tuple #[v, .bool true]) w := by kernel_rfl
theorem no_80_78 (v : Value) (w : World) : (Instr.typeAssert (.iface 80 v) 74 78 true).run Tryd.prog w = .ok (.tuple #[.agg #[.string ⟨#[]⟩], .bool false]) w := by kernel_rfl
theorem is_82 (v : Value) (w : World) : (Instr.typeAssert (.iface 82 v) 74 82 true).run Tryd.prog w = .ok (.tuple #[v, .bool true]) w := by kernel_rfl
theorem no_82_78 (v : Value) (w : World) : (Instr.typeAssert (.iface 82 v) 74 78 true).run Tryd.prog w = .ok (.tuple #[.agg #[.string ⟨#[]⟩], .bool false]) w := by kernel_rfl
theorem no_82_80 (v : Value) (w : World) : (Instr.typeAssert (.iface 82 v) 74 80 true).run Tryd.prog w = .ok (.tuple #[.agg #[.string ⟨#[]⟩], .bool false]) w := by kernel_rfl
theorem is_84 (v : Value) (w : World) : (Instr.typeAssert (.iface 84 v) 74 84 true).run Tryd.prog w = .ok (.tuple #[v, .bool true]) w := by kernel_rfl
theorem no_84_78 (v : Value) (w : World) : (Instr.typeAssert (.iface 84 v) 74 78 true).run Tryd.prog w = .ok (.tuple #[.agg #[.string ⟨#[]⟩], .bool false]) w := by kernel_rfl
theorem no_84_80 (v : Value) (w : World) : (Instr.typeAssert (.iface 84 v) 74 80 true).run Tryd.prog w = .ok (.tuple #[.agg #[.string ⟨#[]⟩], .bool false]) w := by kernel_rfl
theorem no_84_82 (v : Value) (w : World) : (Instr.typeAssert (.iface 84 v) 74 82 true).run Tryd.prog w = .ok (.tuple #[.agg #[.slice none 0 0], .bool false]) w := by kernel_rfl
set_option maxRecDepth 1000000 in
set_option maxHeartbeats 4000000 in
theorem value_bad (Wd : Nat) (free canon : Bool) (st : St) (sl : Value) (d : Int) (f0 : Int) (f1 : ByteArray) (A2 A3 : Option Addr) (n2 c2 n3 c3 : Nat) (W : World) (wt : Nat) (h : Wr Wd free st sl W) (he : st.e ≠ 0) :
  Calls Tryd.prog 33 #[ptr Wd, jVal f0 f1 A2 A3 n2 c2 n3 c3, .int .i64 d, .bool canon] W (VEnds Wd free canon st sl W wt (st)) := by
 have H := am h
 have HL := am (Nat.le_of_lt h.lt)
 have cw2 : ∀ o : Obj, (W.alloc o).cell? ⟨Wd, 2, none⟩ = some (.int .i64 st.e) := fun o => (World.cell?_of_block (Below.block (below_alloc (Below.refl _ _) o) _ h.lt)).trans ((blk_cell h.blk 2).trans rfl)
 clear h
 have e0 : ((st.e : Int) != 0) = true := by
  have : ¬ (st.e : Int) = 0 := by omega
  simp only [bne_iff_ne, ne_eq]
  exact this
 go_enter Tryd.func33, Tryd.ntmps33
 go_wp2
 (try simp only [Exit.inBlock, Exit.then])
 refine ⟨rfl, .tuple #[], results_none rfl _ _ _, ?_⟩
 exact VEnds.of (by repeat (first | exact Below.refl _ _ | apply below_drewN | apply below_drew1 | apply below_alloc)) HL.out (WrOn.refl _ _ _) (H.out.below (by repeat (first | exact Below.refl _ _ | apply below_drewN | apply below_drew1 | apply below_alloc))) (Sm.refl _ _) (fun n hn => hn.less (by omega))
set_option maxRecDepth 1000000 in
set_option maxHeartbeats 4000000 in
theorem value_deep5 (Wd : Nat) (free canon : Bool) (st : St) (sl : Value) (d : Int) (f1 : ByteArray) (A2 A3 : Option Addr) (n2 c2 n3 c3 : Nat) (W : World) (wt : Nat) (h : Wr Wd free st sl W) (he : st.e = 0) (h1 : ¬ (32 : Int) < d) (h2 : (32 : Int) ≤ d) :
  Calls Tryd.prog 33 #[ptr Wd, jVal 5 f1 A2 A3 n2 c2 n3 c3, .int .i64 d, .bool canon] W (VEnds Wd free canon st sl W wt (⟨st.out, 46⟩)) := by
 have H := am h
 have HL := am (Nat.le_of_lt h.lt)
 have cw2 : ∀ o : Obj, (W.alloc o).cell? ⟨Wd, 2, none⟩ = some (.int .i64 st.e) := fun o => (World.cell?_of_block (Below.block (below_alloc (Below.refl _ _) o) _ h.lt)).trans ((blk_cell h.blk 2).trans rfl)
 clear h
 have e0 : ((st.e : Int) != 0) = false := by rw [he]; rfl
 have b1 : decide ((32 : Int) < d) = false := decide_eq_false h1
 have b2 : decide ((32 : Int) ≤ d) = true := decide_eq_true h2
 have HN := am (show (46 : Int) = ((46 : Nat) : Int) from rfl)
 have HF := am (show failF st 46 = ⟨st.out, 46⟩ by unfold failF; rw [if_pos he])
 clear he
 go_enter Tryd.func33, Tryd.ntmps33
 go_wp2_with (go_at_call 50; (with_reducible refine (wfail_calls Wd free st sl 46 46 HN.out _ ?wr).mono ?_); (case wr => exact H.out.below (by repeat (first | exact Below.refl _ _ | apply below_drewN | apply below_drew1 | apply below_alloc))); rintro e w9 ⟨rfl, hw, ho⟩; have HW9 := am hw; have HO9 := am ho; clear hw ho)
 (try simp only [Exit.inBlock, Exit.then])
 refine ⟨rfl, .tuple #[], results_none rfl _ _ _, ?_⟩
 exact VEnds.of (by repeat (first | exact Below.refl _ _ | apply below_drewN | apply below_drew1 | apply below_alloc)) HL.out HO9.out HW9.out (.inl HF.out) (fun n hn => (hn.less (by omega)).failF 46)
set_option maxRecDepth 1000000 in
set_option maxHeartbeats 4000000 in
theorem value_deep6 (Wd : Nat) (free canon : Bool) (st : St) (sl : Value) (d : Int) (f1 : ByteArray) (A2 A3 : Option Addr) (n2 c2 n3 c3 : Nat) (W : World) (wt : Nat) (h : Wr Wd free st sl W) (he : st.e = 0) (h1 : ¬ (32 : Int) < d) (h2 : (32 : Int) ≤ d) :
  Calls Tryd.prog 33 #[ptr Wd, jVal 6 f1 A2 A3 n2 c2 n3 c3, .int .i64 d, .bool canon] W (VEnds Wd free canon st sl W wt (⟨st.out, 46⟩)) := by
 have H := am h
 have HL := am (Nat.le_of_lt h.lt)
 have cw2 : ∀ o : Obj, (W.alloc o).cell? ⟨Wd, 2, none⟩ = some (.int .i64 st.e) := fun o => (World.cell?_of_block (Below.block (below_alloc (Below.refl _ _) o) _ h.lt)).trans ((blk_cell h.blk 2).trans rfl)
 clear h
 have e0 : ((st.e : Int) != 0) = false := by rw [he]; rfl
 have b1 : decide ((32 : Int) < d) = false := decide_eq_false h1
 have b2 : decide ((32 : Int) ≤ d) = true := decide_eq_true h2
 have HN := am (show (46 : Int) = ((46 : Nat) : Int) from rfl)
 have HF := am (show failF st 46 = ⟨st.out, 46⟩ by unfold failF; rw [if_pos he])
 clear he
 go_enter Tryd.func33, Tryd.ntmps33
 go_wp2_with (go_at_call 50; (with_reducible refine (wfail_calls Wd free st sl 46 46 HN.out _ ?wr).mono ?_); (case wr => exact H.out.below (by repeat (first | exact Below.refl _ _ | apply below_drewN | apply below_drew1 | apply below_alloc))); rintro e w9 ⟨rfl, hw, ho⟩; have HW9 := am hw; have HO9 := am ho; clear hw ho)
 (try simp only [Exit.inBlock, Exit.then])
 refine ⟨rfl, .tuple #[], results_none rfl _ _ _, ?_⟩
 exact VEnds.of (by repeat (first | exact Below.refl _ _ | apply below_drewN | apply below_drew1 | apply below_alloc)) HL.out HO9.out HW9.out (.inl HF.out) (fun n hn => (hn.less (by omega)).failF 46)
set_option maxRecDepth 1000000 in
set_option maxHeartbeats 4000000 in
theorem value_node5 (Wd : Nat) (free canon : Bool) (st : St) (sl : Value) (d : Int) (f1 : ByteArray) (A2 A3 : Option Addr) (n2 c2 n3 c3 : Nat) (W : World) (wt : Nat) (h : Wr Wd free st sl W) (he : st.e = 0) (h1 : ¬ (32 : Int) < d) (h2 : ¬ (32 : Int) ≤ d) (hz : f1.size ≤ 9223372036854775806) (hok : nodeOK 5 f1 n2 n3 = false) (hG : Gl Wd W) :
  Calls Tryd.prog 33 #[ptr Wd, jVal 5 f1 A2 A3 n2 c2 n3 c3, .int .i64 d, .bool canon] W (VEnds Wd free canon st sl W wt (⟨st.out, 47⟩)) := by
 have H := am h
 have HL := am (Nat.le_of_lt h.lt)
 have cw2 : ∀ o : Obj, (W.alloc o).cell? ⟨Wd, 2, none⟩ = some (.int .i64 st.e) := fun o => (World.cell?_of_block (Below.block (below_alloc (Below.refl _ _) o) _ h.lt)).trans ((blk_cell h.blk 2).trans rfl)
 clear h
 have e0 : ((st.e : Int) != 0) = false := by rw [he]; rfl
 have b1 : decide ((32 : Int) < d) = false := decide_eq_false h1
 have b2 : decide ((32 : Int) ≤ d) = false := decide_eq_false h2
 have HN := am (show (47 : Int) = ((47 : Nat) : Int) from rfl)
 have HOK := am hok
 have HG := am hG
 have HF := am (show failF st 47 = ⟨st.out, 47⟩ by unfold failF; rw [if_pos he])
 clear he hok hG
 go_enter Tryd.func33, Tryd.ntmps33
 go_wp2_with (first | (go_at_call 51; (with_reducible refine (node_no 5 f1 A2 A3 n2 c2 n3 c3 _ hz ?gl ?tb HOK.out).mono ?_); (case gl => exact (HG.out.below (by repeat (first | exact Below.refl _ _ | apply below_drewN | apply below_drew1 | apply below_alloc)) HL.out).words); (case tb => exact (HG.out.below (by repeat (first | exact Below.refl _ _ | apply below_drewN | apply below_drew1 | apply below_alloc)) HL.out).tabs); rintro e w1 ⟨⟨nv, rfl⟩, hb⟩; have HB1 := am (show Below W.heap.size W w1 from below_step (by repeat (first | exact Below.refl _ _ | apply below_drewN | apply below_drew1 | apply below_alloc)) hb); clear hb) | (go_at_call 50; (with_reducible refine (wfail_calls Wd free st sl 47 47 HN.out _ ?wr).mono ?_); (case wr => exact H.out.below HB1.out); rintro e w9 ⟨rfl, hw, ho⟩; have HW9 := am hw; have HO9 := am ho; clear hw ho))
 (try simp only [Exit.inBlock, Exit.then])
 refine ⟨rfl, .tuple #[], results_none rfl _ _ _, ?_⟩
 exact VEnds.of HB1.out HL.out HO9.out HW9.out (.inl HF.out) (fun n hn => (hn.less (by omega)).failF 47)
set_option maxRecDepth 1000000 in
set_option maxHeartbeats 4000000 in
theorem value_node6 (Wd : Nat) (free canon : Bool) (st : St) (sl : Value) (d : Int) (f1 : ByteArray) (A2 A3 : Option Addr) (n2 c2 n3 c3 : Nat) (W : World) (wt : Nat) (h : Wr Wd free st sl W) (he : st.e = 0) (h1 : ¬ (32 : Int) < d) (h2 : ¬ (32 : Int) ≤ d) (hz : f1.size ≤ 9223372036854775806) (hok : nodeOK 6 f1 n2 n3 = false) (hG : Gl Wd W) :
  Calls Tryd.prog 33 #[ptr Wd, jVal 6 f1 A2 A3 n2 c2 n3 c3, .int .i64 d, .bool canon] W (VEnds Wd free canon st sl W wt (⟨st.out, 47⟩)) := by
 have H := am h
 have HL := am (Nat.le_of_lt h.lt)
 have cw2 : ∀ o : Obj, (W.alloc o).cell? ⟨Wd, 2, none⟩ = some (.int .i64 st.e) := fun o => (World.cell?_of_block (Below.block (below_alloc (Below.refl _ _) o) _ h.lt)).trans ((blk_cell h.blk 2).trans rfl)
 clear h
 have e0 : ((st.e : Int) != 0) = false := by rw [he]; rfl
 have b1 : decide ((32 : Int) < d) = false := decide_eq_false h1
 have b2 : decide ((32 : Int) ≤ d) = false := decide_eq_false h2
 have HN := am (show (47 : Int) = ((47 : Nat) : Int) from rfl)
 have HOK := am hok
 have HG := am hG
 have HF := am (show failF st 47 = ⟨st.out, 47⟩ by unfold failF; rw [if_pos he])
 clear he hok hG
 go_enter Tryd.func33, Tryd.ntmps33
 go_wp2_with (first | (go_at_call 51; (with_reducible refine (node_no 6 f1 A2 A3 n2 c2 n3 c3 _ hz ?gl ?tb HOK.out).mono ?_); (case gl => exact (HG.out.below (by repeat (first | exact Below.refl _ _ | apply below_drewN | apply below_drew1 | apply below_alloc)) HL.out).words); (case tb => exact (HG.out.below (by repeat (first | exact Below.refl _ _ | apply below_drewN | apply below_drew1 | apply below_alloc)) HL.out).tabs); rintro e w1 ⟨⟨nv, rfl⟩, hb⟩; have HB1 := am (show Below W.heap.size W w1 from below_step (by repeat (first | exact Below.refl _ _ | apply below_drewN | apply below_drew1 | apply below_alloc)) hb); clear hb) | (go_at_call 50; (with_reducible refine (wfail_calls Wd free st sl 47 47 HN.out _ ?wr).mono ?_); (case wr => exact H.out.below HB1.out); rintro e w9 ⟨rfl, hw, ho⟩; have HW9 := am hw; have HO9 := am ho; clear hw ho))
 (try simp only [Exit.inBlock, Exit.then])
 refine ⟨rfl, .tuple #[], results_none rfl _ _ _, ?_⟩
 exact VEnds.of HB1.out HL.out HO9.out HW9.out (.inl HF.out) (fun n hn => (hn.less (by omega)).failF 47)
set_option maxRecDepth 1000000 in
set_option maxHeartbeats 4000000 in
theorem value_nodeX (Wd : Nat) (free canon : Bool) (st : St) (sl : Value) (d : Int) (f0 : Int) (f1 : ByteArray) (A2 A3 : Option Addr) (n2 c2 n3 c3 : Nat) (W : World) (wt : Nat) (h : Wr Wd free st sl W) (he : st.e = 0) (h1 : ¬ (32 : Int) < d) (h5 : ¬ f0 = 5) (h6 : ¬ f0 = 6) (hz : f1.size ≤ 9223372036854775806) (hok : nodeOK f0 f1 n2 n3 = false) (hG : Gl Wd W) :
  Calls Tryd.prog 33 #[ptr Wd, jVal f0 f1 A2 A3 n2 c2 n3 c3, .int .i64 d, .bool canon] W (VEnds Wd free canon st sl W wt (⟨st.out, 47⟩)) := by
 have H := am h
 have HL := am (Nat.le_of_lt h.lt)
 have cw2 : ∀ o : Obj, (W.alloc o).cell? ⟨Wd, 2, none⟩ = some (.int .i64 st.e) := fun o => (World.cell?_of_block (Below.block (below_alloc (Below.refl _ _) o) _ h.lt)).trans ((blk_cell h.blk 2).trans rfl)
 clear h
 have e0 : ((st.e : Int) != 0) = false := by rw [he]; rfl
 have b1 : decide ((32 : Int) < d) = false := decide_eq_false h1
 have e5 : (f0 == 5) = false := by simp [h5]
 have e6 : (f0 == 6) = false := by simp [h6]
 have HN := am (show (47 : Int) = ((47 : Nat) : Int) from rfl)
 have HOK := am hok
 have HG := am hG
 have HF := am (show failF st 47 = ⟨st.out, 47⟩ by unfold failF; rw [if_pos he])
 clear he hok hG
 go_enter Tryd.func33, Tryd.ntmps33
 go_wp2_with (first | (go_at_call 51; (with_reducible refine (node_no f0 f1 A2 A3 n2 c2 n3 c3 _ hz ?gl ?tb HOK.out).mono ?_); (case gl => exact (HG.out.below (by repeat (first | exact Below.refl _ _ | apply below_drewN | apply below_drew1 | apply below_alloc)) HL.out).words); (case tb => exact (HG.out.below (by repeat (first | exact Below.refl _ _ | apply below_drewN | apply below_drew1 | apply below_alloc)) HL.out).tabs); rintro e w1 ⟨⟨nv, rfl⟩, hb⟩; have HB1 := am (show Below W.heap.size W w1 from below_step (by repeat (first | exact Below.refl _ _ | apply below_drewN | apply below_drew1 | apply below_alloc)) hb); clear hb) | (go_at_call 50; (with_reducible refine (wfail_calls Wd free st sl 47 47 HN.out _ ?wr).mono ?_); (case wr => exact H.out.below HB1.out); rintro e w9 ⟨rfl, hw, ho⟩; have HW9 := am hw; have HO9 := am ho; clear hw ho))
 (try simp only [Exit.inBlock, Exit.then])
 refine ⟨rfl, .tuple #[], results_none rfl _ _ _, ?_⟩
 exact VEnds.of HB1.out HL.out HO9.out HW9.out (.inl HF.out) (fun n hn => (hn.less (by omega)).failF 47)
set_option maxRecDepth 1000000 in
set_option maxHeartbeats 4000000 in
theorem value_word0 (Wd : Nat) (free canon : Bool) (st : St) (sl : Value) (d : Int) (f1 : ByteArray) (A2 A3 : Option Addr) (n2 c2 n3 c3 : Nat) (W : World) (wt : Nat) (h : Wr Wd free st sl W) (he : st.e = 0) (h1 : ¬ (32 : Int) < d) (hok : nodeOK 0 f1 n2 n3 = true) (hG : Gl Wd W) (hrm : Room free st (wordB 0).size) (hwt : (wordB 0).size ≤ wt) :
  Calls Tryd.prog 33 #[ptr Wd, jVal 0 f1 A2 A3 n2 c2 n3 c3, .int .i64 d, .bool canon] W (VEnds Wd free canon st sl W wt (putF free st (wordB 0).data.toList)) := by
 have H := am h
 have HL := am (Nat.le_of_lt h.lt)
 have cw2 : ∀ o : Obj, (W.alloc o).cell? ⟨Wd, 2, none⟩ = some (.int .i64 st.e) := fun o => (World.cell?_of_block (Below.block (below_alloc (Below.refl _ _) o) _ h.lt)).trans ((blk_cell h.blk 2).trans rfl)
 clear h
 have e0 : ((st.e : Int) != 0) = false := by rw [he]; rfl
 have b1 : decide ((32 : Int) < d) = false := decide_eq_false h1
 have HOK := am hok
 have HG := am hG
 have HRM := am hrm
 clear he hok hG hrm
 have ta := is_78
 go_enter Tryd.func33, Tryd.ntmps33
 go_wp2_with (first | (go_at_call 51; (with_reducible refine (node_yes0 f1 A2 A3 n2 c2 n3 c3 _ ?gl HOK.out).mono ?_); (case gl => exact (HG.out.below (by repeat (first | exact Below.refl _ _ | apply below_drewN | apply below_drew1 | apply below_alloc)) HL.out).words); rintro e w1 ⟨rfl, hb⟩; have HB1 := am (show Below W.heap.size W w1 from below_step (by repeat (first | exact Below.refl _ _ | apply below_drewN | apply below_drew1 | apply below_alloc)) hb); clear hb) | (go_at_call 52; (with_reducible refine (put_calls Wd free st sl (wordB 0) _ ?rm9 ?wr9).mono ?_); (case rm9 => exact HRM.out); (case wr9 => exact H.out.below (by repeat (first | exact HB1.out | exact Below.refl _ _ | apply below_drewN | apply below_drew1 | apply below_alloc | refine below_set ?_ HB1.out.size))); rintro e w9 ⟨rfl, sl9, hw, ho⟩; have HW9 := am hw; have HO9 := am ho; clear hw ho))
 (try simp only [Exit.inBlock, Exit.then])
 refine ⟨rfl, .tuple #[], results_none rfl _ _ _, ?_⟩
 exact VEnds.of (by repeat (first | exact HB1.out | exact Below.refl _ _ | apply below_drewN | apply below_drew1 | apply below_alloc | refine below_set ?_ HB1.out.size)) HL.out HO9.out HW9.out (.inl rfl) (fun n hn => hn.put _ (by rw [size_data]; omega))
set_option maxRecDepth 1000000 in
set_option maxHeartbeats 4000000 in
theorem value_word1 (Wd : Nat) (free canon : Bool) (st : St) (sl : Value) (d : Int) (f1 : ByteArray) (A2 A3 : Option Addr) (n2 c2 n3 c3 : Nat) (W : World) (wt : Nat) (h : Wr Wd free st sl W) (he : st.e = 0) (h1 : ¬ (32 : Int) < d) (hok : nodeOK 1 f1 n2 n3 = true) (hG : Gl Wd W) (hrm : Room free st (wordB 1).size) (hwt : (wordB 1).size ≤ wt) :
  Calls Tryd.prog 33 #[ptr Wd, jVal 1 f1 A2 A3 n2 c2 n3 c3, .int .i64 d, .bool canon] W (VEnds Wd free canon st sl W wt (putF free st (wordB 1).data.toList)) := by
 have H := am h
 have HL := am (Nat.le_of_lt h.lt)
 have cw2 : ∀ o : Obj, (W.alloc o).cell? ⟨Wd, 2, none⟩ = some (.int .i64 st.e) := fun o => (World.cell?_of_block (Below.block (below_alloc (Below.refl _ _) o) _ h.lt)).trans ((blk_cell h.blk 2).trans rfl)
 clear h
 have e0 : ((st.e : Int) != 0) = false := by rw [he]; rfl
 have b1 : decide ((32 : Int) < d) = false := decide_eq_false h1
 have HOK := am hok
 have HG := am hG
 have HRM := am hrm
 clear he hok hG hrm
 have ta := is_78
 go_enter Tryd.func33, Tryd.ntmps33
 go_wp2_with (first | (go_at_call 51; (with_reducible refine (node_yes1 f1 A2 A3 n2 c2 n3 c3 _ ?gl HOK.out).mono ?_); (case gl => exact (HG.out.below (by repeat (first | exact Below.refl _ _ | apply below_drewN | apply below_drew1 | apply below_alloc)) HL.out).words); rintro e w1 ⟨rfl, hb⟩; have HB1 := am (show Below W.heap.size W w1 from below_step (by repeat (first | exact Below.refl _ _ | apply below_drewN | apply below_drew1 | apply below_alloc)) hb); clear hb) | (go_at_call 52; (with_reducible refine (put_calls Wd free st sl (wordB 1) _ ?rm9 ?wr9).mono ?_); (case rm9 => exact HRM.out); (case wr9 => exact H.out.below (by repeat (first | exact HB1.out | exact Below.refl _ _ | apply below_drewN | apply below_drew1 | apply below_alloc | refine below_set ?_ HB1.out.size))); rintro e w9 ⟨rfl, sl9, hw, ho⟩; have HW9 := am hw; have HO9 := am ho; clear hw ho))
 (try simp only [Exit.inBlock, Exit.then])
 refine ⟨rfl, .tuple #[], results_none rfl _ _ _, ?_⟩
 exact VEnds.of (by repeat (first | exact HB1.out | exact Below.refl _ _ | apply below_drewN | apply below_drew1 | apply below_alloc | refine below_set ?_ HB1.out.size)) HL.out HO9.out HW9.out (.inl rfl) (fun n hn => hn.put _ (by rw [size_data]; omega))
set_option maxRecDepth 1000000 in
set_option maxHeartbeats 4000000 in
theorem value_word2 (Wd : Nat) (free canon : Bool) (st : St) (sl : Value) (d : Int) (f1 : ByteArray) (A2 A3 : Option Addr) (n2 c2 n3 c3 : Nat) (W : World) (wt : Nat) (h : Wr Wd free st sl W) (he : st.e = 0) (h1 : ¬ (32 : Int) < d) (hok : nodeOK 2 f1 n2 n3 = true) (hG : Gl Wd W) (hrm : Room free st (wordB 2).size) (hwt : (wordB 2).size ≤ wt) :
  Calls Tryd.prog 33 #[ptr Wd, jVal 2 f1 A2 A3 n2 c2 n3 c3, .int .i64 d, .bool canon] W (VEnds Wd free canon st sl W wt (putF free st (wordB 2).data.toList)) := by
 have H := am h
 have HL := am (Nat.le_of_lt h.lt)
 have cw2 : ∀ o : Obj, (W.alloc o).cell? ⟨Wd, 2, none⟩ = some (.int .i64 st.e) := fun o => (World.cell?_of_block (Below.block (below_alloc (Below.refl _ _) o) _ h.lt)).trans ((blk_cell h.blk 2).trans rfl)
 clear h
 have e0 : ((st.e : Int) != 0) = false := by rw [he]; rfl
 have b1 : decide ((32 : Int) < d) = false := decide_eq_false h1
 have HOK := am hok
 have HG := am hG
 have HRM := am hrm
 clear he hok hG hrm
 have ta := is_78
 go_enter Tryd.func33, Tryd.ntmps33
 go_wp2_with (first | (go_at_call 51; (with_reducible refine (node_yes2 f1 A2 A3 n2 c2 n3 c3 _ ?gl HOK.out).mono ?_); (case gl => exact (HG.out.below (by repeat (first | exact Below.refl _ _ | apply below_drewN | apply below_drew1 | apply below_alloc)) HL.out).words); rintro e w1 ⟨rfl, hb⟩; have HB1 := am (show Below W.heap.size W w1 from below_step (by repeat (first | exact Below.refl _ _ | apply below_drewN | apply below_drew1 | apply below_alloc)) hb); clear hb) | (go_at_call 52; (with_reducible refine (put_calls Wd free st sl (wordB 2) _ ?rm9 ?wr9).mono ?_); (case rm9 => exact HRM.out); (case wr9 => exact H.out.below (by repeat (first | exact HB1.out | exact Below.refl _ _ | apply below_drewN | apply below_drew1 | apply below_alloc | refine below_set ?_ HB1.out.size))); rintro e w9 ⟨rfl, sl9, hw, ho⟩; have HW9 := am hw; have HO9 := am ho; clear hw ho))
 (try simp only [Exit.inBlock, Exit.then])
 refine ⟨rfl, .tuple #[], results_none rfl _ _ _, ?_⟩
 exact VEnds.of (by repeat (first | exact HB1.out | exact Below.refl _ _ | apply below_drewN | apply below_drew1 | apply below_alloc | refine below_set ?_ HB1.out.size)) HL.out HO9.out HW9.out (.inl rfl) (fun n hn => hn.put _ (by rw [size_data]; omega))
set_option maxRecDepth 1000000 in
set_option maxHeartbeats 4000000 in
theorem value_word3 (Wd : Nat) (free canon : Bool) (st : St) (sl : Value) (d : Int) (f1 : ByteArray) (A2 A3 : Option Addr) (n2 c2 n3 c3 : Nat) (W : World) (wt : Nat) (h : Wr Wd free st sl W) (he : st.e = 0) (h1 : ¬ (32 : Int) < d) (hz : f1.size ≤ 9223372036854775806) (hok : nodeOK 3 f1 n2 n3 = true) (hG : Gl Wd W) (hrm : Room free st f1.size) (hwt : f1.size ≤ wt) :
  Calls Tryd.prog 33 #[ptr Wd, jVal 3 f1 A2 A3 n2 c2 n3 c3, .int .i64 d, .bool canon] W (VEnds Wd free canon st sl W wt (putF free st f1.data.toList)) := by
 have H := am h
 have HL := am (Nat.le_of_lt h.lt)
 have cw2 : ∀ o : Obj, (W.alloc o).cell? ⟨Wd, 2, none⟩ = some (.int .i64 st.e) := fun o => (World.cell?_of_block (Below.block (below_alloc (Below.refl _ _) o) _ h.lt)).trans ((blk_cell h.blk 2).trans rfl)
 clear h
 have e0 : ((st.e : Int) != 0) = false := by rw [he]; rfl
 have b1 : decide ((32 : Int) < d) = false := decide_eq_false h1
 have HOK := am hok
 have HG := am hG
 have HRM := am hrm
 clear he hok hG hrm
 have ta := is_78
 go_enter Tryd.func33, Tryd.ntmps33
 go_wp2_with (first | (go_at_call 51; (with_reducible refine (node_yes3 f1 A2 A3 n2 c2 n3 c3 _ hz HOK.out).mono ?_); rintro e w1 ⟨rfl, hb⟩; have HB1 := am (show Below W.heap.size W w1 from below_step (by repeat (first | exact Below.refl _ _ | apply below_drewN | apply below_drew1 | apply below_alloc)) hb); clear hb) | (go_at_call 52; (with_reducible refine (put_calls Wd free st sl f1 _ ?rm9 ?wr9).mono ?_); (case rm9 => exact HRM.out); (case wr9 => exact H.out.below (by repeat (first | exact HB1.out | exact Below.refl _ _ | apply below_drewN | apply below_drew1 | apply below_alloc | refine below_set ?_ HB1.out.size))); rintro e w9 ⟨rfl, sl9, hw, ho⟩; have HW9 := am hw; have HO9 := am ho; clear hw ho))
 (try simp only [Exit.inBlock, Exit.then])
 refine ⟨rfl, .tuple #[], results_none rfl _ _ _, ?_⟩
 exact VEnds.of (by repeat (first | exact HB1.out | exact Below.refl _ _ | apply below_drewN | apply below_drew1 | apply below_alloc | refine below_set ?_ HB1.out.size)) HL.out HO9.out HW9.out (.inl rfl) (fun n hn => hn.put _ (by rw [size_data]; omega))
set_option maxRecDepth 1000000 in
set_option maxHeartbeats 4000000 in
theorem value_text (Wd : Nat) (free canon : Bool) (st : St) (sl : Value) (d : Int) (f1 : ByteArray) (A2 A3 : Option Addr) (n2 c2 n3 c3 : Nat) (W : World) (wt : Nat) (h : Wr Wd free st sl W) (he : st.e = 0) (h1 : ¬ (32 : Int) < d) (hz : f1.size ≤ 9223372036854775806) (hok : nodeOK 4 f1 n2 n3 = true) (hG : Gl Wd W) (hs : f1.size ≤ 288230376151711743) (hrm : Room free st (12 * f1.size + 14)) (hwt : 12 * f1.size + 14 ≤ wt) :
  Calls Tryd.prog 33 #[ptr Wd, jVal 4 f1 A2 A3 n2 c2 n3 c3, .int .i64 d, .bool canon] W (VEnds Wd free canon st sl W wt (putsF free st (quoteB f1))) := by
 have H := am h
 have HL := am (Nat.le_of_lt h.lt)
 have cw2 : ∀ o : Obj, (W.alloc o).cell? ⟨Wd, 2, none⟩ = some (.int .i64 st.e) := fun o => (World.cell?_of_block (Below.block (below_alloc (Below.refl _ _) o) _ h.lt)).trans ((blk_cell h.blk 2).trans rfl)
 clear h
 have e0 : ((st.e : Int) != 0) = false := by rw [he]; rfl
 have b1 : decide ((32 : Int) < d) = false := decide_eq_false h1
 have HOK := am hok
 have HG := am hG
 have HRM := am hrm
 clear he hok hG hrm
 have ta := is_80
 have tb := no_80_78
 go_enter Tryd.func33, Tryd.ntmps33
 go_wp2_with (first | (go_at_call 51; (with_reducible refine (node_yes4 f1 A2 A3 n2 c2 n3 c3 _ hz ?tb HOK.out).mono ?_); (case tb => exact (HG.out.below (by repeat (first | exact Below.refl _ _ | apply below_drewN | apply below_drew1 | apply below_alloc)) HL.out).tabs); rintro e w1 ⟨rfl, hb⟩; have HB1 := am (show Below W.heap.size W w1 from below_step (by repeat (first | exact Below.refl _ _ | apply below_drewN | apply below_drew1 | apply below_alloc)) hb); clear hb) | (go_at_call 53; (with_reducible refine (quote_calls Wd free st sl f1 _ hs ?rm9 ?wr9).mono ?_); (case rm9 => exact HRM.out); (case wr9 => exact H.out.below (by repeat (first | exact HB1.out | exact Below.refl _ _ | apply below_drewN | apply below_drew1 | apply below_alloc | refine below_set ?_ HB1.out.size))); rintro e w9 ⟨rfl, sl9, hw, ho⟩; have HW9 := am hw; have HO9 := am ho; clear hw ho))
 (try simp only [Exit.inBlock, Exit.then])
 refine ⟨rfl, .tuple #[], results_none rfl _ _ _, ?_⟩
 exact VEnds.of (by repeat (first | exact HB1.out | exact Below.refl _ _ | apply below_drewN | apply below_drew1 | apply below_alloc | refine below_set ?_ HB1.out.size)) HL.out HO9.out HW9.out (.inl rfl) (fun n hn => hn.quote _ (by omega))
def WOK (free canon : Bool) (r : Nat) (d : Int) : Prop :=
 ∀ (Wd : Nat) (st : St) (sl : Value) (W : World) (v : J) (A2 A3 : Option Addr) (c2 c3 : Nat), Wr Wd free st sl W → Fit free st (wtJ r v) → SmJ r v → (canon = true → LnJ r v) → Kd.F Kd.string W (okW Wd sl) A2 v.f2.length v.f2 → v.f2.length ≤ c2 → Kd.F k25 W (okW Wd sl) A3 v.f3.length v.f3 → v.f3.length ≤ c3 → Gl Wd W →
  Calls Tryd.prog 33 #[ptr Wd, jVal v.f0 v.f1 A2 A3 v.f2.length c2 v.f3.length c3, .int .i64 d, .bool canon] W (VEnds Wd free canon st sl W (wtJ r v) (valW free canon r v st))
theorem F_elem {W : World} {ok : Nat → Prop} {A : Option Addr} {xs : List J} (h : Kd.F k25 W ok A xs.length xs) (i : Nat) (hi : i < xs.length) :
  ∃ ad A2 c2 A3 c3, A = some ad ∧ W.cell? (ad.add (i * 4)) = some (.int .i64 (rd_T25 xs i).f0) ∧ W.cell? ⟨(ad.add (i * 4)).block, (ad.add (i * 4)).off + 1, none⟩ = some (.string (rd_T25 xs i).f1) ∧ W.cell? ⟨(ad.add (i * 4)).block, (ad.add (i * 4)).off + 2, none⟩ = some (.slice A2 (rd_T25 xs i).f2.length c2) ∧ W.cell? ⟨(ad.add (i * 4)).block, (ad.add (i * 4)).off + 3, none⟩ = some (.slice A3 (rd_T25 xs i).f3.length c3) ∧
   (rd_T25 xs i).f2.length ≤ c2 ∧ Kd.F Kd.string W ok A2 (rd_T25 xs i).f2.length (rd_T25 xs i).f2 ∧ (rd_T25 xs i).f3.length ≤ c3 ∧ Kd.F k25 W ok A3 (rd_T25 xs i).f3.length (rd_T25 xs i).f3 := by
 obtain ⟨ad, c, e, _, hK, hc0, _⟩ := Kd.F_get h z25 (i : Int) (by omega) (by omega)
 have hc : ∀ j u, c[j]? = some u → W.cell? (ad.add (i * 4 + j)) = some u := hc0
 obtain ⟨A2, c2, A3, c3, rfl, l2, g2, l3, g3⟩ := k25_openF hK
 exact ⟨ad, A2, c2, A3, c3, e, hc 0 _ rfl, by rw [← add_field _ _ 1 (by omega)]; exact hc 1 _ rfl, by rw [← add_field _ _ 2 (by omega)]; exact hc 2 _ rfl, by rw [← add_field _ _ 3 (by omega)]; exact hc 3 _ rfl, l2, g2, l3, g3⟩
theorem Wr.newblk {Wd b : Nat} {free : Bool} {st : St} {sl sl' : Value} {W w0 w1 : World} {o : Obj} (h : Wr Wd free st sl W) (hb : W.heap.size ≤ b) (ho : WrOn Wd sl sl' w0 w1) (hk : w0.heap[b]? = some o) : w1.heap[b]? = some o :=
 (ho.kept b (lt_of_block hk) (by have := h.lt; omega) (fun hh => by have := (h.own.lt b hh.symm).2; omega)).trans hk
def wtI (r : Nat) (l : List J) : Nat := (l.map (fun y => wtJ r y + 1)).sum
theorem rd_mem (xs : List J) (i : Nat) (hi : i < xs.length) : rd_T25 xs i ∈ xs := by
 unfold rd_T25
 rw [show ((i : Int)).toNat = i from Int.toNat_natCast i, List.getD_eq_getElem?_getD, List.getElem?_eq_getElem hi]
 exact List.getElem_mem hi
theorem wtI_cons (r : Nat) (y : J) (l : List J) : wtI r (y :: l) = wtJ r y + 1 + wtI r l := by simp [wtI]
theorem itemsW_cons (free : Bool) (one : J → St → St) (i : Nat) (y : J) (l : List J) (st : St) : itemsW free one i (y :: l) st = itemsW free one (i + 1) l (one y (if i = 0 then st else putF free st [44])) := by
 rw [itemsW]
theorem wrap_next (i n : Nat) (hi : i < n) (hn : n ≤ 9223372036854775807) : wrap64 ((i : Int) + 1) = ((i + 1 : Nat) : Int) := by unfold wrap64; omega
theorem drop_rd (xs : List J) (i : Nat) (hi : i < xs.length) : xs.drop i = rd_T25 xs i :: xs.drop (i + 1) := by
 rw [List.drop_eq_getElem_cons hi]
 unfold rd_T25
 rw [show ((i : Int)).toNat = i from Int.toNat_natCast i, List.getD_eq_getElem?_getD, List.getElem?_eq_getElem hi]
 rfl
set_option maxRecDepth 1000000 in
set_option maxHeartbeats 4000000 in
theorem value_list (Wd : Nat) (free canon : Bool) (st : St) (sl : Value) (d : Int) (f1 : ByteArray) (A2 A3 : Option Addr) (n2 c2 n3 c3 : Nat) (W : World) (wt : Nat) (h : Wr Wd free st sl W) (l3 : List J) (hn : n3 = l3.length) (r : Nat) (he : st.e = 0) (h1 : ¬ (32 : Int) < d) (h2 : ¬ (32 : Int) ≤ d) (hok : nodeOK 5 f1 n2 n3 = true) (hG : Gl Wd W) (hwt : wtI r l3 + 2 ≤ wt) (hfit : Fit free st wt) (hsm : ∀ y, y ∈ l3 → SmJ r y) (hln : canon = true → ∀ y, y ∈ l3 → LnJ r y) (hF3 : Kd.F k25 W (okW Wd sl) A3 n3 l3) (hc3 : n3 ≤ c3) (IH : WOK free canon r (wrap64 (d + 1))) :
  Calls Tryd.prog 33 #[ptr Wd, jVal 5 f1 A2 A3 n2 c2 n3 c3, .int .i64 d, .bool canon] W (VEnds Wd free canon st sl W wt (putF free (itemsW free (valW free canon r) 0 l3 (putF free st [91])) [93])) := by
 have H := am h
 have HL := am (Nat.le_of_lt h.lt)
 have cw2 : ∀ o : Obj, (W.alloc o).cell? ⟨Wd, 2, none⟩ = some (.int .i64 st.e) := fun o => (World.cell?_of_block (Below.block (below_alloc (Below.refl _ _) o) _ h.lt)).trans ((blk_cell h.blk 2).trans rfl)
 clear h
 have e0 : ((st.e : Int) != 0) = false := by rw [he]; rfl
 subst hn
 have b1 : decide ((32 : Int) < d) = false := decide_eq_false h1
 have b2 : decide ((32 : Int) ≤ d) = false := decide_eq_false h2
 have HOK := am hok
 have HG := am hG
 have HF := am hfit
 have HS := am hsm
 have HLN := am hln
 have HX := am hF3
 unfold WOK at IH
 have HI := am IH
 have hmax := Kd.F_max hF3
 clear he hok hG hfit hsm hln hF3 IH
 have ta := is_82
 have tb := no_82_78
 have tc := no_82_80
 go_enter Tryd.func33, Tryd.ntmps33
 go_wp2_with (first | (go_at_call 51; (with_reducible refine (node_yes5 f1 A2 A3 n2 c2 l3.length c3 _ HOK.out).mono ?_); rintro e w1 ⟨rfl, hb⟩; have HB1 := am (show Below W.heap.size W w1 from below_step (by repeat (first | exact Below.refl _ _ | apply below_drewN | apply below_drew1 | apply below_alloc)) hb); clear hb) | (go_at_call 52; (with_reducible refine (put_calls Wd free st sl ⟨#[91]⟩ _ ?rm2 ?wr2).mono ?_); (case rm2 => exact HF.out.room (m := 1) (by omega) (by omega)); (case wr2 => exact H.out.below (by repeat (first | exact HB1.out | exact Below.refl _ _ | apply below_drewN | apply below_drew1 | apply below_alloc | refine below_set ?_ HB1.out.size))); rintro e w2 ⟨rfl, sl2, hw, ho⟩; have HW2 := am hw; have HO2 := am ho; clear hw ho; have x0 : w2.cell? ⟨w1.heap.size, 0, none⟩ = some (.slice A3 l3.length c3) := (blk_cell (H.out.newblk (o := .cells #[.slice A3 l3.length c3] 82 (0, 0)) HB1.out.size HO2.out (heap_alloc_new w1 _)) 0).trans rfl))
 have HE1 := am (show WrOn Wd sl sl2 W w2 from (WrOn.of_below HL.out (by repeat (first | exact HB1.out | exact Below.refl _ _ | apply below_drewN | apply below_drew1 | apply below_alloc | refine below_set ?_ HB1.out.size))).trans HO2.out)
 have HFe := am (show ∀ n, Fit free st (wt + n) → Fit free (putF free st [91]) (wtI r (l3.drop 0) + 1 + n) from fun n hn => hn.put [91] (by rw [List.drop_zero, List.length_singleton]; omega))
 clear x0 HB1 HOK
 go_loopg [73] (l3.length + 1) (fun g v73 wr => ∃ (i : Nat) (st2 : St) (sl2 : Value), v73 = .int .i64 (i : Int) ∧ i ≤ l3.length ∧ l3.length + 1 ≤ i + g ∧ Aside0 (Wr Wd free st2 sl2 wr) ∧ Aside0 (WrOn Wd sl sl2 W wr) ∧ Aside0 (∀ n, Fit free st (wt + n) → Fit free st2 (wtI r (l3.drop i) + 1 + n)) ∧ Aside0 (Sm canon (itemsW free (valW free canon r) i (l3.drop i) st2) (itemsW free (valW free canon r) 0 l3 (putF free st [91]))))
 case atStart => exact ⟨0, putF free st [91], sl2, rfl, by omega, by omega, HW2, HE1, HFe, ⟨Sm.refl _ _⟩⟩
 case round =>
  obtain ⟨i, st2, sl3, rfl, hi, hg, HW3, HO3, HF3, HX3⟩ := hrel
  clear HW2 HO2 HE1 HFe
  by_cases hlt : i < l3.length
  ·cases gk with
   | zero => omega
   | succ g =>
    have HX4 := am (F_on HX.out HO3.out)
    obtain ⟨ad, B2, k2, B3, k3, e9, q0, q1, q2, q3, m2, g2, m3, g3⟩ := F_elem HX4.out i hlt
    subst e9
    have HM2 := am m2
    have HM3 := am m3
    have HG2 := am g2
    have HG3 := am g3
    have HDR := am (drop_rd l3 i hlt)
    have HSY := am (HS.out (rd_T25 l3 i) (rd_mem l3 i hlt))
    have HLY := am (fun hc => HLN.out hc (rd_T25 l3 i) (rd_mem l3 i hlt))
    clear m2 m3 g2 g3
    have p1 : (0 ≤ (i : Int)) = True := eq_true (by omega)
    have p2 : ((i : Int) < (l3.length : Int)) = True := eq_true (by omega)
    have hwn := wrap_next i l3.length hlt hmax
    have HWN := am hwn
    have HIT := am (itemsW_cons free (valW free canon r) i (rd_T25 l3 i) (l3.drop (i + 1)) st2)
    have HWT := am (wtI_cons r (rd_T25 l3 i) (l3.drop (i + 1)))
    have HX5 := am (show Sm canon (itemsW free (valW free canon r) i (rd_T25 l3 i :: l3.drop (i + 1)) st2) (itemsW free (valW free canon r) 0 l3 (putF free st [91])) from drop_rd l3 i hlt ▸ HX3.out)
    have HF5 := am (show ∀ n, Fit free st (wt + n) → Fit free st2 (wtI r (rd_T25 l3 i :: l3.drop (i + 1)) + 1 + n) from drop_rd l3 i hlt ▸ HF3.out)
    have HL3 := am (Nat.le_of_lt HW3.out.lt)
    clear HX3 HF3 HDR HX4
    generalize rd_T25 l3 (i : Int) = y at *
    by_cases hi0 : i = 0
    ·have c0 : decide ((0 : Int) < (i : Int)) = false := decide_eq_false (by omega)
     have c1 : ((0 : Int) < (i : Int)) = False := eq_false (by omega)
     have c2' : (0 < i) = False := eq_false (by omega)
     have c3' : decide (0 < i) = false := decide_eq_false (by omega)
     have HF6 := am (show ∀ n, Fit free st (wt + n) → Fit free st2 (wtJ r y + (wtI r (l3.drop (i + 1)) + 1 + n)) from fun n hn => (HF5.out n hn).less (by rw [HWT.out]; omega))
     have HX6 := am (show Sm canon (itemsW free (valW free canon r) (i + 1) (l3.drop (i + 1)) (valW free canon r y st2)) (itemsW free (valW free canon r) 0 l3 (putF free st [91])) from by have := HX5.out; rw [HIT.out, if_pos hi0] at this; exact this)
     clear HX5 HIT HF5 hi0
     go_wp2_with (go_at_call 33; (with_reducible refine (HI.out Wd st2 sl3 _ y B2 B3 k2 k3 ?w6 ?f6 HSY.out HLY.out ?s62 HM2.out ?s63 HM3.out ?g6).mono ?_); (case w6 => exact HW3.out.below (by repeat (first | exact Below.refl _ _ | apply below_drewN | apply below_drew1 | apply below_alloc))); (case f6 => exact (HF6.out 0 HF.out).less (by omega)); (case s62 => exact Kd.F_below HG2.out (by repeat (first | exact Below.refl _ _ | apply below_drewN | apply below_drew1 | apply below_alloc))); (case s63 => exact Kd.F_below HG3.out (by repeat (first | exact Below.refl _ _ | apply below_drewN | apply below_drew1 | apply below_alloc))); (case g6 => exact (HG.out.on HO3.out).below (by repeat (first | exact Below.refl _ _ | apply below_drewN | apply below_drew1 | apply below_alloc)) HL3.out); rintro e w6 ⟨rfl, st6, sl6, hs, hf, hw, ho⟩; have HS6 := am hs; have HV6 := am hf; have HW6 := am hw; have HO6 := am ho; clear hs hf hw ho)
     go_roundg g
     case measure => omega
     case rel => exact ⟨i + 1, st6, sl6, (by first | exact congrArg (Value.int .i64) HWN.out | exact congrArg (Value.int .i64) (show (i : Int) + 1 = ((i + 1 : Nat) : Int) by omega)), by omega, by omega, HW6, ⟨HO3.out.trans ((WrOn.of_below HL3.out (by repeat (first | exact Below.refl _ _ | apply below_drewN | apply below_drew1 | apply below_alloc))).trans HO6.out)⟩, ⟨fun n hn => HV6.out _ (HF6.out n hn)⟩, ⟨(HS6.out.items free (fun y st h => valW_bad free canon r y st h) _ _).trans HX6.out⟩⟩
    ·have c0 : decide ((0 : Int) < (i : Int)) = true := decide_eq_true (by omega)
     have HF6 := am (show ∀ n, Fit free st (wt + n) → Fit free (putF free st2 [44]) (wtJ r y + (wtI r (l3.drop (i + 1)) + 1 + n)) from fun n hn => (HF5.out n hn).put [44] (by rw [HWT.out, List.length_singleton]; omega))
     have HX6 := am (show Sm canon (itemsW free (valW free canon r) (i + 1) (l3.drop (i + 1)) (valW free canon r y (putF free st2 [44]))) (itemsW free (valW free canon r) 0 l3 (putF free st [91])) from by have := HX5.out; rw [HIT.out, if_neg hi0] at this; exact this)
     have HR5 := am ((HF5.out 0 HF.out).room (m := 1) (by omega) (by omega))
     clear HX5 HIT HF5
     go_wp2_with (first | (go_at_call 52; (with_reducible refine (put_calls Wd free st2 sl3 ⟨#[44]⟩ _ ?rm5 ?wr5).mono ?_); (case rm5 => exact HR5.out); (case wr5 => exact HW3.out.below (by repeat (first | exact Below.refl _ _ | apply below_drewN | apply below_drew1 | apply below_alloc))); rintro e w5 ⟨rfl, sl5, hw, ho⟩; have HW5 := am hw; have HO5 := am ho; clear hw ho; have x0 : w5.cell? ⟨wr.heap.size, 0, none⟩ = some (.int .i64 y.f0) := (blk_cell (HW3.out.newblk (o := .cells #[.int .i64 y.f0, .string y.f1, .slice B2 y.f2.length k2, .slice B3 y.f3.length k3] 25 (0, 0)) (Nat.le_refl _) HO5.out (heap_alloc_new wr _)) 0).trans rfl; have x1 : w5.cell? ⟨wr.heap.size, 1, none⟩ = some (.string y.f1) := (blk_cell (HW3.out.newblk (o := .cells #[.int .i64 y.f0, .string y.f1, .slice B2 y.f2.length k2, .slice B3 y.f3.length k3] 25 (0, 0)) (Nat.le_refl _) HO5.out (heap_alloc_new wr _)) 1).trans rfl; have x2 : w5.cell? ⟨wr.heap.size, 2, none⟩ = some (.slice B2 y.f2.length k2) := (blk_cell (HW3.out.newblk (o := .cells #[.int .i64 y.f0, .string y.f1, .slice B2 y.f2.length k2, .slice B3 y.f3.length k3] 25 (0, 0)) (Nat.le_refl _) HO5.out (heap_alloc_new wr _)) 2).trans rfl; have x3 : w5.cell? ⟨wr.heap.size, 3, none⟩ = some (.slice B3 y.f3.length k3) := (blk_cell (HW3.out.newblk (o := .cells #[.int .i64 y.f0, .string y.f1, .slice B2 y.f2.length k2, .slice B3 y.f3.length k3] 25 (0, 0)) (Nat.le_refl _) HO5.out (heap_alloc_new wr _)) 3).trans rfl) | (go_at_call 33; (with_reducible refine (HI.out Wd (putF free st2 [44]) sl5 _ y B2 B3 k2 k3 ?w6 ?f6 HSY.out HLY.out ?s62 HM2.out ?s63 HM3.out ?g6).mono ?_); (case w6 => exact HW5.out); (case f6 => exact (HF6.out 0 HF.out).less (by omega)); (case s62 => exact F_on (Kd.F_below HG2.out (by repeat (first | exact Below.refl _ _ | apply below_drewN | apply below_drew1 | apply below_alloc))) HO5.out); (case s63 => exact F_on (Kd.F_below HG3.out (by repeat (first | exact Below.refl _ _ | apply below_drewN | apply below_drew1 | apply below_alloc))) HO5.out); (case g6 => exact ((HG.out.on HO3.out).below (by repeat (first | exact Below.refl _ _ | apply below_drewN | apply below_drew1 | apply below_alloc)) HL3.out).on HO5.out); rintro e w6 ⟨rfl, st6, sl6, hs, hf, hw, ho⟩; have HS6 := am hs; have HV6 := am hf; have HW6 := am hw; have HO6 := am ho; clear hs hf hw ho))
     go_roundg g
     case measure => omega
     case rel => exact ⟨i + 1, st6, sl6, (by first | exact congrArg (Value.int .i64) HWN.out | exact congrArg (Value.int .i64) (show (i : Int) + 1 = ((i + 1 : Nat) : Int) by omega)), by omega, by omega, HW6, ⟨HO3.out.trans ((WrOn.of_below HL3.out (by repeat (first | exact Below.refl _ _ | apply below_drewN | apply below_drew1 | apply below_alloc))).trans (HO5.out.trans HO6.out))⟩, ⟨fun n hn => HV6.out _ (HF6.out n hn)⟩, ⟨(HS6.out.items free (fun y st h => valW_bad free canon r y st h) _ _).trans HX6.out⟩⟩
  ·have p2 : ((i : Int) < (l3.length : Int)) = False := eq_false (by omega)
   have hie : l3.drop i = [] := List.drop_eq_nil_of_le (by omega)
   have HX5 := am (show Sm canon st2 (itemsW free (valW free canon r) 0 l3 (putF free st [91])) from by have := HX3.out; rw [hie] at this; exact this)
   have HF5 := am (show ∀ n, Fit free st (wt + n) → Fit free st2 (1 + n) from fun n hn => (HF3.out n hn).less (by omega))
   clear hie HX3 HF3
   go_wp2_with (go_at_call 52; (with_reducible refine (put_calls Wd free st2 sl3 ⟨#[93]⟩ _ ?rm9 ?wr9).mono ?_); (case rm9 => exact (HF5.out 0 HF.out).room (m := 1) (by omega) (by omega)); (case wr9 => exact HW3.out); rintro e w9 ⟨rfl, sl9, hw, ho⟩; have HW9 := am hw; have HO9 := am ho; clear hw ho)
   (try simp only [Exit.inBlock, Exit.then])
   refine ⟨rfl, .tuple #[], results_none rfl _ _ _, ?_⟩
   exact VEnds.of (Below.refl _ _) HL.out (HO3.out.trans HO9.out) HW9.out (HX5.out.put free [93]) (fun n hn => (HF5.out n hn).put [93] (by rw [List.length_singleton]; omega))
end Go.Proofs.YtaalajhmfdcalaaDoor.X
namespace Go.Proofs.YtaalajhmfdcalaaDoor.X
open Go.RowKit Go.Lib Go.Maps Go.Proofs.YtaalajhmfdcalaaDoorW.PrintWords Go.Proofs.YtaalajhmfdcalaaDoorW.PrintLast Go.Proofs.YtaalajhmfdcalaaDoorW.PrintMore
theorem Wr.keepT {Wd b t : Nat} {free : Bool} {st : St} {sl sl' : Value} {W W' : World} {c : Array Value} (hw : Wr Wd free st sl W) (ho : WrOn Wd sl sl' W W') (hk : W.heap[b]? = some (.cells c t (0, 0))) (h5 : t ≠ 5) (h60 : t ≠ 60) : W'.heap[b]? = some (.cells c t (0, 0)) := by
 refine (ho.kept b (lt_of_block hk) ?_ ?_).trans hk
 ·rintro rfl; rw [hw.blk] at hk; injection hk with hk; injection hk with _ hk; exact h60 hk.symm
 ·intro hh
  obtain ⟨cells, hc⟩ := own_typed hw.own.1 b hh.symm
  rw [hk] at hc; injection hc with hc; injection hc with _ hc; exact h5 hc
theorem Wr.keepM {Wd M : Nat} {free : Bool} {st : St} {sl sl' : Value} {W W' : World} {ns : List ByteArray} (hw : Wr Wd free st sl W) (ho : WrOn Wd sl sl' W W') (hs : Seen W M ns) : Seen W' M ns := by
 refine hs.move (ho.kept M hs.lt (fun hh => hs.ne hw.blk hh.symm) (fun hh => ?_))
 obtain ⟨cells, hc⟩ := own_typed hw.own.1 M hh.symm
 exact hs.ne hc rfl
theorem Wr.mapped {Wd M : Nat} {free : Bool} {st : St} {sl : Value} {W W' : World} {ns : List ByteArray} (hw : Wr Wd free st sl W) (hs : Seen W M ns) (hg : W.grownBy W' (some M)) : Wr Wd free st sl W' := by
 refine ⟨(hg.block Wd hw.lt (fun hh => by injection hh with hh; exact hs.ne hw.blk hh)).trans hw.blk, hw.own.heap hg.size fun g hg' => hg.block g (hw.own.lt g hg').2 (fun hh => ?_)⟩
 obtain ⟨cells, hc⟩ := own_typed hw.own.1 g hg'
 injection hh with hh
 exact hs.ne hc hh
theorem WrOn.mapped {Wd M : Nat} {sl sl' : Value} {W w w' : World} (ho : WrOn Wd sl sl' W w) (hM : W.heap.size ≤ M) (hWd : Wd ≤ W.heap.size) (hg : w.grownBy w' (some M)) : WrOn Wd sl sl' W w' := by
 have key : ∀ b, b < W.heap.size → w'.heap[b]? = w.heap[b]? := fun b hb => hg.block b (Nat.lt_of_lt_of_le hb ho.size) (fun hh => by injection hh with hh; omega)
 obtain ⟨a, b, c, d, e⟩ := ho.low
 exact ⟨⟨hg.os.trans a, hg.tape.trans b, hg.output.trans c, Nat.le_trans d hg.size, fun k hk => (key k (by omega)).trans (e k hk)⟩, fun b hb h1 h2 => (key b hb).trans (ho.kept b hb h1 h2), Nat.le_trans ho.size hg.size, ho.at_⟩
def wtN (l : List ByteArray) : Nat := (l.map (fun s => 12 * s.size + 16)).sum
theorem wtN_cons (s : ByteArray) (l : List ByteArray) : wtN (s :: l) = 12 * s.size + 16 + wtN l := by simp [wtN]
abbrev nmAt (xs : List ByteArray) (i : Nat) : ByteArray := rdOf ByteArray.empty xs (i : Int)
theorem nmAt_eq (xs : List ByteArray) (i : Nat) (hi : i < xs.length) : nmAt xs i = xs[i] := by
 show xs.getD ((i : Int)).toNat ByteArray.empty = _
 rw [show ((i : Int)).toNat = i from Int.toNat_natCast i, List.getD_eq_getElem?_getD, List.getElem?_eq_getElem hi]
 rfl
theorem drop_nm (xs : List ByteArray) (i : Nat) (hi : i < xs.length) : xs.drop i = nmAt xs i :: xs.drop (i + 1) := by
 rw [List.drop_eq_getElem_cons hi, nmAt_eq xs i hi]
theorem take_nm (xs : List ByteArray) (i : Nat) (hi : i < xs.length) : xs.take (i + 1) = xs.take i ++ [nmAt xs i] := by
 rw [nmAt_eq xs i hi, List.take_succ_eq_append_getElem hi]
theorem mem_nm (xs : List ByteArray) (i : Nat) (hi : i < xs.length) : nmAt xs i ∈ xs := by
 rw [nmAt_eq xs i hi]; exact List.getElem_mem hi
section
variable {free : Bool} {one : J → St → St} {seen ns : List ByteArray} {i : Nat} {nm : ByteArray} {y : J} {ys : List J} {st st5 : St}
theorem mW_A (h5 : (if i = 0 then st else putF free st [44]) = st5) (he : st5.e ≠ 0) : membersW free one seen i (nm :: ns) (y :: ys) st = st5 := by
 unfold membersW; simp only [h5, if_pos he]
theorem mW_B (h5 : (if i = 0 then st else putF free st [44]) = st5) (he : st5.e = 0) (hv : validD nm.data.toList = false) : membersW free one seen i (nm :: ns) (y :: ys) st = failF st5 47 := by
 unfold membersW; simp only [h5]; rw [if_neg (by simp [he]), if_pos hv]
theorem mW_C (h5 : (if i = 0 then st else putF free st [44]) = st5) (he : st5.e = 0) (hv : validD nm.data.toList = true) (hs : nm.data.toList ∈ seen.map (fun b => b.data.toList)) : membersW free one seen i (nm :: ns) (y :: ys) st = failF st5 45 := by
 unfold membersW; simp only [h5]; rw [if_neg (by simp [he]), if_neg (by simp [hv]), if_pos hs]
theorem mW_D (h5 : (if i = 0 then st else putF free st [44]) = st5) (he : st5.e = 0) (hv : validD nm.data.toList = true) (hs : ¬ nm.data.toList ∈ seen.map (fun b => b.data.toList)) : membersW free one seen i (nm :: ns) (y :: ys) st = membersW free one (seen ++ [nm]) (i + 1) ns ys (one y (putF free (putsF free st5 (quoteB nm)) [58])) := by
 rw [membersW]; simp only [h5]; rw [if_neg (by simp [he]), if_neg (by simp [hv]), if_neg hs]
end
theorem Sm.over {canon free : Bool} {a b m : St} (h : Sm canon m b) (hm : m = a) (he : a.e ≠ 0) : Sm canon a (putF free b [125]) := by
 have h1 := h.put free [125]
 rw [hm, putF_bad free a [125] he] at h1
 exact h1
theorem key_at (nm : ByteArray) (h : nm.size ≤ 288230376151711743) : keyOf Tryd.prog 9 (.string nm) = some (.string nm.data.toList) := Go.WideMaps.keyOf_string_mk Tryd.underlying9 (s := nm) (by unfold maxLen; omega)
set_option maxRecDepth 1000000 in
set_option maxHeartbeats 16000000 in
theorem members_calls (Wd : Nat) (free canon : Bool) (st : St) (sl : Value) (d : Int) (A2 A3 : Option Addr) (c2 c3 : Nat) (W : World) (wt : Nat) (ns : List ByteArray) (ys : List J) (hny : ns.length = ys.length) (r : Nat) (h : Wr Wd free st sl W) (hG : Gl Wd W) (hwt : wtN ns + wtI r ys + 2 ≤ wt) (hfit : Fit free st wt)
  (hsn : ∀ s, s ∈ ns → s.size ≤ 288230376151711743) (hsm : ∀ y, y ∈ ys → SmJ r y) (hln : canon = true → ∀ y, y ∈ ys → LnJ r y) (hF2 : Kd.F Kd.string W (okW Wd sl) A2 ns.length ns) (hc2 : ns.length ≤ c2) (hF3 : Kd.F k25 W (okW Wd sl) A3 ys.length ys) (hc3 : ys.length ≤ c3) (IH : WOK free canon r (wrap64 (d + 1))) :
  Calls Tryd.prog 55 #[ptr Wd, .agg #[.slice A2 ns.length c2, .slice A3 ys.length c3], .int .i64 d, .bool canon] W (VEnds Wd free canon st sl W wt (putF free (membersW free (valW free canon r) [] 0 ns ys (putF free st [123])) [125])) := by
 have H := am h
 have HL := am (Nat.le_of_lt h.lt)
 have HG := am hG
 have HF := am hfit
 have HSN := am hsn
 have HS := am hsm
 have HLN := am hln
 have HX2 := am hF2
 have HX := am hF3
 have hmax := Kd.F_max hF3
 unfold WOK at IH
 have HI := am IH
 have hmm := @run_makeMap Tryd.prog
 have HNY := am hny
 have hmax2 : ns.length ≤ 9223372036854775807 := by omega
 clear hny h hG hfit hsn hsm hln hF2 hF3 IH
 go_enter Tryd.func55, Tryd.ntmps55
 go_wp2_with (go_at_call 52; (with_reducible refine (put_calls Wd free st sl ⟨#[123]⟩ _ ?rm1 ?wr1).mono ?_); (case rm1 => exact HF.out.room (m := 1) (by omega) (by omega)); (case wr1 => exact H.out.below (by repeat (first | exact Below.refl _ _ | apply below_drewN | apply below_drew1 | apply below_alloc))); rintro e w1 ⟨rfl, sl1, hw, ho⟩; have HW1 := am hw; have HO1 := am ho; clear hw ho; have HE1 := am (show WrOn Wd sl sl1 W w1 from (WrOn.of_below HL.out (by repeat (first | exact Below.refl _ _ | apply below_drewN | apply below_drew1 | apply below_alloc))).trans HO1.out); have hbx := H.out.newblk (o := .cells #[.slice A2 ns.length c2, .slice A3 ys.length c3] 84 (0, 0)) (Nat.le_refl _) HO1.out (heap_alloc_new W _); have HMW := am (Nat.le_of_lt (lt_of_block hbx)); have BX2 := am (((below_alloc (Below.refl _ w1) (.map #[] 0)).block _ (lt_of_block hbx)).trans hbx); clear hbx; have x0 : (w1.alloc (.map #[] 0)).cell? ⟨W.heap.size, 0, none⟩ = some (.slice A2 ns.length c2) := (blk_cell BX2.out 0).trans rfl)
 go_loopg [17] (ns.length + 1) (fun g v17 wr => ∃ (i : Nat) (st2 : St) (sl2 : Value), v17 = .int .i64 (i : Int) ∧ i ≤ ns.length ∧ ns.length + 1 ≤ i + g ∧ Aside0 (Wr Wd free st2 sl2 wr) ∧ Aside0 (WrOn Wd sl sl2 W wr) ∧ Aside0 (wr.heap[W.heap.size]? = some (.cells #[.slice A2 ns.length c2, .slice A3 ys.length c3] 84 (0, 0))) ∧ Aside0 (Seen wr w1.heap.size (ns.take i)) ∧ Aside0 (∀ n, Fit free st (wt + n) → Fit free st2 (wtN (ns.drop i) + wtI r (ys.drop i) + 1 + n)) ∧ Aside0 (Sm canon (membersW free (valW free canon r) (ns.take i) i (ns.drop i) (ys.drop i) st2) (membersW free (valW free canon r) [] 0 ns ys (putF free st [123]))))
 case atStart => exact ⟨0, putF free st [123], sl1, rfl, by omega, by omega, ⟨HW1.out.below (by repeat (first | exact Below.refl _ _ | apply below_drewN | apply below_drew1 | apply below_alloc))⟩, ⟨HE1.out.trans (WrOn.of_below (Nat.le_of_lt HW1.out.lt) (by repeat (first | exact Below.refl _ _ | apply below_drewN | apply below_drew1 | apply below_alloc)))⟩, BX2, ⟨Seen.made w1⟩, ⟨fun n hn => hn.put [123] (by rw [List.drop_zero, List.drop_zero, List.length_singleton]; omega)⟩, ⟨Sm.refl _ _⟩⟩
 case round =>
  obtain ⟨i, st2, sl3, rfl, hi, hg, HW3, HO3, HB3, HSE3, HF3, HX3⟩ := hrel
  clear HW1 HO1 HE1 BX2 x0
  by_cases hlt : i < ns.length
  ·cases gk with
   | zero => omega
   | succ g =>
    have hlt2 : i < ys.length := by have := HNY.out; omega
    obtain ⟨ad, e8, q0⟩ := Kd.at_string (Kd.F_now (F_on HX2.out HO3.out)) (i : Int) (by omega) (by omega)
    subst e8
    replace q0 : wr.cell? (ad.add i) = some (.string (nmAt ns i)) := q0
    obtain ⟨ae, B2, k2, B3, k3, e9, _⟩ := F_elem (F_on HX.out HO3.out) i hlt2
    subst e9
    have HE9 := am (fun (w : World) (sl' : Value) (ho : WrOn Wd sl sl' W w) => F_elem (F_on HX.out ho) i hlt2)
    have HDR := am (drop_rd ys i hlt2)
    have HDN := am (drop_nm ns i hlt)
    have HTK := am (take_nm ns i hlt)
    have HSY := am (HS.out (rd_T25 ys i) (rd_mem ys i hlt2))
    have HLY := am (fun hc => HLN.out hc (rd_T25 ys i) (rd_mem ys i hlt2))
    have HNM := am (HSN.out (nmAt ns i) (mem_nm ns i hlt))
    have HWN := am (wrap_next i ns.length hlt hmax2)
    have p1 : (0 ≤ (i : Int)) = True := eq_true (by omega)
    have p2 : ((i : Int) < (ns.length : Int)) = True := eq_true (by omega)
    have p3 : ((i : Int) < (ys.length : Int)) = True := eq_true (by omega)
    have HX5 := am (show Sm canon (membersW free (valW free canon r) (ns.take i) i (nmAt ns i :: ns.drop (i + 1)) (rd_T25 ys i :: ys.drop (i + 1)) st2) (membersW free (valW free canon r) [] 0 ns ys (putF free st [123])) from by have := HX3.out; rw [HDR.out, HDN.out] at this; exact this)
    have HF5 := am (show ∀ n, Fit free st (wt + n) → Fit free st2 (1 + (12 * (nmAt ns i).size + 3 + (wtJ r (rd_T25 ys i) + (wtN (ns.drop (i + 1)) + wtI r (ys.drop (i + 1)) + 1 + n)))) from fun n hn => (HF3.out n hn).less (by rw [HDR.out, HDN.out, wtN_cons, wtI_cons]; omega))
    have HWT := am (wtJ_text r (rd_T25 ys i))
    have HL3 := am (Nat.le_of_lt HW3.out.lt)
    have HMW' := HMW
    have cr2 : wr.cell? ⟨Wd, 2, none⟩ = some (.int .i64 st2.e) := (blk_cell HW3.out.blk 2).trans rfl
    clear HX3 HF3 HDR HDN
    generalize rd_T25 ys (i : Int) = y at *
    generalize nmAt ns i = nm at *
    have HKEY := am (key_at nm HNM.out)
    by_cases hi0 : i = 0
    ·have c0 : decide ((0 : Int) < (i : Int)) = false := decide_eq_false (by omega)
     have c1' : ((0 : Int) < (i : Int)) = False := eq_false (by omega)
     have c2' : (0 < i) = False := eq_false (by omega)
     have c3' : decide (0 < i) = false := decide_eq_false (by omega)
     have H5 := am (show (if i = 0 then st2 else putF free st2 [44]) = st2 from if_pos hi0)
     have HF6 := am (show ∀ n, Fit free st (wt + n) → Fit free st2 (12 * nm.size + 3 + (wtJ r y + (wtN (ns.drop (i + 1)) + wtI r (ys.drop (i + 1)) + 1 + n))) from fun n hn => (HF5.out n hn).less (by omega))
     clear hi0 HF5
     by_cases he : st2.e = 0
     ·cases hv : validD nm.data.toList with
      | false =>
       have e0 : ((st2.e : Int) != 0) = false := by rw [he]; rfl
       have HER := am he
       clear he
       have HN := am (show (47 : Int) = ((47 : Nat) : Int) from rfl)
       have HV := am hv
       clear hv
       have HW5 := HW3
       have HO35 := HO3
       have HB5 := HB3
       have HSE5 := HSE3
       have HG5 := am (HG.out.on HO35.out)
       go_wp2_with (first | (go_at_call 75; (with_reducible refine (valid_calls nm _ false HV.out (by have := HNM.out; omega) ?tb).mono ?_); (case tb => exact HG5.out.tabs); rintro e w6 ⟨rfl, hb⟩; have HW6 := am (HW5.out.below hb); have HO6 := am (HO35.out.trans (WrOn.of_below (Nat.le_of_lt HW5.out.lt) hb)); have HN6 := am (WrOn.of_below (sl := sl3) (Nat.le_of_lt HW5.out.lt) hb); have HB6 := am (HW5.out.keepT HN6.out HB5.out (by decide) (by decide)); have HSE6 := am (HW5.out.keepM HN6.out HSE5.out); clear hb) | (go_at_call 50; (with_reducible refine (wfail_calls Wd free st2 sl3 47 47 HN.out _ ?wrf).mono ?_); (case wrf => exact HW6.out); rintro e w9 ⟨rfl, hw, ho⟩; have HW9 := am hw; have HO9 := am ho; clear hw ho))
       (try simp only [Exit.inBlock, Exit.then])
       refine ⟨rfl, .tuple #[], results_none rfl _ _ _, ?_⟩
       exact VEnds.of (Below.refl _ _) HL.out (HO6.out.trans HO9.out) HW9.out (HX5.out.over (mW_B H5.out HER.out HV.out) (failF_e _ _ (by decide))) (fun n hn => ((HF6.out n hn).failF 47).less (by omega))
      | true =>
       by_cases hsn : nm.data.toList ∈ (ns.take i).map (fun b => b.data.toList)
       ·have e0 : ((st2.e : Int) != 0) = false := by rw [he]; rfl
        have HER := am he
        clear he
        have HN := am (show (45 : Int) = ((45 : Nat) : Int) from rfl)
        have HV := am hv
        clear hv
        have HSN5 := am hsn
        clear hsn
        have HW5 := HW3
        have HO35 := HO3
        have HB5 := HB3
        have HSE5 := HSE3
        have HG5 := am (HG.out.on HO35.out)
        go_wp2_with (first | (go_at_call 75; (with_reducible refine (valid_calls nm _ true HV.out (by have := HNM.out; omega) ?tb).mono ?_); (case tb => exact HG5.out.tabs); rintro e w6 ⟨rfl, hb⟩; have HW6 := am (HW5.out.below hb); have HO6 := am (HO35.out.trans (WrOn.of_below (Nat.le_of_lt HW5.out.lt) hb)); have HN6 := am (WrOn.of_below (sl := sl3) (Nat.le_of_lt HW5.out.lt) hb); have HB6 := am (HW5.out.keepT HN6.out HB5.out (by decide) (by decide)); have HSE6 := am (HW5.out.keepM HN6.out HSE5.out); clear hb) | (at_lookup; obtain ⟨D, hD1, hD2, hD3⟩ := HSE6.out; refine wpList_lookup_own_int _ rfl _ _ 97 rfl 9 3 .i64 key9 Tryd.underlying97 Tryd.underlying3 (zero3 _) w1.heap.size (ns.take i).length D rfl hD2 (.string nm) (.string nm.data.toList) rfl HKEY.out ?_; intro cc hat hwc; rw [hD3 nm.data.toList, if_pos HSN5.out] at hat; injection hat with hat; injection hat with _ hat; subst hat; have HD1 := am hD1; have HD2 := am hD2; have HD3 := am hD3; clear hD1 hD2 hD3 hwc) | (go_at_call 50; (with_reducible refine (wfail_calls Wd free st2 sl3 45 45 HN.out _ ?wrf).mono ?_); (case wrf => exact HW6.out); rintro e w9 ⟨rfl, hw, ho⟩; have HW9 := am hw; have HO9 := am ho; clear hw ho))
        (try simp only [Exit.inBlock, Exit.then])
        refine ⟨rfl, .tuple #[], results_none rfl _ _ _, ?_⟩
        exact VEnds.of (Below.refl _ _) HL.out (HO6.out.trans HO9.out) HW9.out (HX5.out.over (mW_C H5.out HER.out HV.out HSN5.out) (failF_e _ _ (by decide))) (fun n hn => ((HF6.out n hn).failF 45).less (by omega))
       ·have e0 : ((st2.e : Int) != 0) = false := by rw [he]; rfl
        have HER := am he
        clear he
        have HV := am hv
        have HSN5 := am hsn
        clear hv hsn
        have HF8 := am (show ∀ n, Fit free st (wt + n) → Fit free (putsF free st2 (quoteB nm)) (1 + (wtJ r y + (wtN (ns.drop (i + 1)) + wtI r (ys.drop (i + 1)) + 1 + n))) from fun n hn => (HF6.out n hn).quote nm (by omega))
        have HF9 := am (show ∀ n, Fit free st (wt + n) → Fit free (putF free (putsF free st2 (quoteB nm)) [58]) (wtJ r y + (wtN (ns.drop (i + 1)) + wtI r (ys.drop (i + 1)) + 1 + n)) from fun n hn => (HF8.out n hn).put [58] (by rw [List.length_singleton]; omega))
        have HX6 := am (show Sm canon (membersW free (valW free canon r) (ns.take (i + 1)) (i + 1) (ns.drop (i + 1)) (ys.drop (i + 1)) (valW free canon r y (putF free (putsF free st2 (quoteB nm)) [58]))) (membersW free (valW free canon r) [] 0 ns ys (putF free st [123])) from by have := HX5.out; rw [mW_D H5.out HER.out HV.out HSN5.out] at this; rw [HTK.out]; exact this)
        have HR8 := am ((HF6.out 0 HF.out).room (m := 12 * nm.size + 14) (by have := HWT.out; omega) (by have := HNM.out; omega))
        have HR9 := am ((HF8.out 0 HF.out).room (m := 1) (by omega) (by omega))
        have htl : (ns.take i).length ≤ 9223372036854775806 := by rw [List.length_take]; omega
        clear HX5
        have HW5 := HW3
        have HO35 := HO3
        have HB5 := HB3
        have HSE5 := HSE3
        have HG5 := am (HG.out.on HO35.out)
        go_wp2_with (first | (go_at_call 75; (with_reducible refine (valid_calls nm _ true HV.out (by have := HNM.out; omega) ?tb).mono ?_); (case tb => exact HG5.out.tabs); rintro e w6 ⟨rfl, hb⟩; have HW6 := am (HW5.out.below hb); have HO6 := am (HO35.out.trans (WrOn.of_below (Nat.le_of_lt HW5.out.lt) hb)); have HN6 := am (WrOn.of_below (sl := sl3) (Nat.le_of_lt HW5.out.lt) hb); have HB6 := am (HW5.out.keepT HN6.out HB5.out (by decide) (by decide)); have HSE6 := am (HW5.out.keepM HN6.out HSE5.out); clear hb) | (at_lookup; obtain ⟨D, hD1, hD2, hD3⟩ := HSE6.out; refine wpList_lookup_own_int _ rfl _ _ 97 rfl 9 3 .i64 key9 Tryd.underlying97 Tryd.underlying3 (zero3 _) w1.heap.size (ns.take i).length D rfl hD2 (.string nm) (.string nm.data.toList) rfl HKEY.out ?_; intro cc hat hwc; rw [hD3 nm.data.toList, if_neg HSN5.out] at hat; injection hat with hat; injection hat with _ hat; subst hat; have HD1 := am hD1; have HD2 := am hD2; have HD3 := am hD3; clear hD1 hD2 hD3 hwc) | (at_mapUpdate; refine wpList_mapUpdate_own _ rfl _ _ _ 97 rfl 9 3 key9 Tryd.underlying97 _ w1.heap.size (ns.take i).length _ rfl HD2.out (by unfold maxLen; omega) _ _ _ rfl rfl HKEY.out _ [] (plainElem_int Tryd.underlying3 (by decide)) ?_; intro w7 hown7 hg7; have HW7 := am (HW6.out.mapped HSE6.out hg7); have HO7 := am (HO6.out.mapped HMW.out HL.out hg7); have HB7 := am (blk_grownM HB6.out HSE6.out hg7); have HSE7 := am (show Seen w7 w1.heap.size (ns.take (i + 1)) from HTK.out ▸ seen_put (W := w6) nm HD1.out HD3.out hown7); clear hown7 hg7) | (go_at_call 53; (with_reducible refine (quote_calls Wd free st2 sl3 nm _ HNM.out ?rm8 ?wr8).mono ?_); (case rm8 => exact HR8.out); (case wr8 => exact HW7.out); rintro e w8 ⟨rfl, sl8, hw, ho⟩; have HW8 := am hw; have HO8 := am (HO7.out.trans ho); have HB8 := am (HW7.out.keepT ho HB7.out (by decide) (by decide)); have HSE8 := am (HW7.out.keepM ho HSE7.out); clear hw ho) | (go_at_call 52; (with_reducible refine (put_calls Wd free (putsF free st2 (quoteB nm)) sl8 ⟨#[58]⟩ _ ?rm9 ?wr9).mono ?_); (case rm9 => exact HR9.out); (case wr9 => exact HW8.out); rintro e w9 ⟨rfl, sl9, hw, ho⟩; have HW9 := am hw; have HO9 := am (HO8.out.trans ho); have HB9 := am (HW8.out.keepT ho HB8.out (by decide) (by decide)); have HSE9 := am (HW8.out.keepM ho HSE8.out); clear hw ho; have x9 : w9.cell? ⟨W.heap.size, 1, none⟩ = some (.slice (some ae) ys.length c3) := (blk_cell HB9.out 1).trans rfl; obtain ⟨ae', B2', k2', B3', k3', e9, z0, z1, z2, z3, m2, g2, m3, g3⟩ := HE9.out w9 sl9 HO9.out; injection e9 with e9; subst e9; have HM2 := am m2; have HM3 := am m3; have HG2 := am g2; have HG3 := am g3; clear m2 m3 g2 g3) | (go_at_call 33; (with_reducible refine (HI.out Wd (putF free (putsF free st2 (quoteB nm)) [58]) sl9 _ y B2' B3' k2' k3' ?w10 ?f10 HSY.out HLY.out ?s102 HM2.out ?s103 HM3.out ?g10).mono ?_); (case w10 => exact HW9.out); (case f10 => exact (HF9.out 0 HF.out).less (by omega)); (case s102 => exact HG2.out); (case s103 => exact HG3.out); (case g10 => exact HG.out.on HO9.out); rintro e w10 ⟨rfl, st10, sl10, hs, hf, hw, ho⟩; have HS10 := am hs; have HV10 := am hf; have HW10 := am hw; have HO10 := am (HO9.out.trans ho); have HB10 := am (HW9.out.keepT ho HB9.out (by decide) (by decide)); have HSE10 := am (HW9.out.keepM ho HSE9.out); clear hs hf hw ho))
        go_roundg g
        case measure => omega
        case rel => exact ⟨i + 1, st10, sl10, (by first | exact congrArg (Value.int .i64) HWN.out | exact congrArg (Value.int .i64) (show (i : Int) + 1 = ((i + 1 : Nat) : Int) by omega)), by omega, by omega, HW10, HO10, HB10, HSE10, ⟨fun n hn => HV10.out _ (HF9.out n hn)⟩, ⟨(HS10.out.members free _ _ _ _).trans HX6.out⟩⟩
     ·have e0 : ((st2.e : Int) != 0) = true := by
       have : ¬ (st2.e : Int) = 0 := by omega
       simp only [bne_iff_ne, ne_eq]
       exact this
      have HER := am he
      clear he
      have HW5 := HW3
      have HO35 := HO3
      have HB5 := HB3
      have HSE5 := HSE3
      have HG5 := am (HG.out.on HO35.out)
      go_wp2
      (try simp only [Exit.inBlock, Exit.then])
      refine ⟨rfl, .tuple #[], results_none rfl _ _ _, ?_⟩
      exact VEnds.of (Below.refl _ _) HL.out HO35.out HW5.out (HX5.out.over (mW_A H5.out HER.out) HER.out) (fun n hn => (HF6.out n hn).less (by omega))
    ·have c0 : decide ((0 : Int) < (i : Int)) = true := decide_eq_true (by omega)
     have H5 := am (show (if i = 0 then st2 else putF free st2 [44]) = putF free st2 [44] from if_neg hi0)
     have HF6 := am (show ∀ n, Fit free st (wt + n) → Fit free (putF free st2 [44]) (12 * nm.size + 3 + (wtJ r y + (wtN (ns.drop (i + 1)) + wtI r (ys.drop (i + 1)) + 1 + n))) from fun n hn => (HF5.out n hn).put [44] (by rw [List.length_singleton]; omega))
     have HR5 := am ((HF5.out 0 HF.out).room (m := 1) (by omega) (by omega))
     clear HF5
     by_cases he : (putF free st2 [44]).e = 0
     ·cases hv : validD nm.data.toList with
      | false =>
       have e0 : (((putF free st2 [44]).e : Int) != 0) = false := by rw [he]; rfl
       have HER := am he
       clear he
       have HN := am (show (47 : Int) = ((47 : Nat) : Int) from rfl)
       have HV := am hv
       clear hv
       go_wp2_with (first | (go_at_call 52; (with_reducible refine (put_calls Wd free st2 sl3 ⟨#[44]⟩ _ ?rm5 ?wr5).mono ?_); (case rm5 => exact HR5.out); (case wr5 => exact HW3.out); rintro e w5 ⟨rfl, sl5, hw, ho⟩; have HW5 := am hw; have HO5 := am ho; clear hw ho; have HO35 := am (HO3.out.trans HO5.out); have HB5 := am (HW3.out.keepT HO5.out HB3.out (by decide) (by decide)); have HSE5 := am (HW3.out.keepM HO5.out HSE3.out); have HG5 := am (HG.out.on HO35.out); have x2 : w5.cell? ⟨Wd, 2, none⟩ = some (.int .i64 (putF free st2 [44]).e) := (blk_cell HW5.out.blk 2).trans rfl) | (go_at_call 75; (with_reducible refine (valid_calls nm _ false HV.out (by have := HNM.out; omega) ?tb).mono ?_); (case tb => exact HG5.out.tabs); rintro e w6 ⟨rfl, hb⟩; have HW6 := am (HW5.out.below hb); have HO6 := am (HO35.out.trans (WrOn.of_below (Nat.le_of_lt HW5.out.lt) hb)); have HN6 := am (WrOn.of_below (sl := sl5) (Nat.le_of_lt HW5.out.lt) hb); have HB6 := am (HW5.out.keepT HN6.out HB5.out (by decide) (by decide)); have HSE6 := am (HW5.out.keepM HN6.out HSE5.out); clear hb) | (go_at_call 50; (with_reducible refine (wfail_calls Wd free (putF free st2 [44]) sl5 47 47 HN.out _ ?wrf).mono ?_); (case wrf => exact HW6.out); rintro e w9 ⟨rfl, hw, ho⟩; have HW9 := am hw; have HO9 := am ho; clear hw ho))
       (try simp only [Exit.inBlock, Exit.then])
       refine ⟨rfl, .tuple #[], results_none rfl _ _ _, ?_⟩
       exact VEnds.of (Below.refl _ _) HL.out (HO6.out.trans HO9.out) HW9.out (HX5.out.over (mW_B H5.out HER.out HV.out) (failF_e _ _ (by decide))) (fun n hn => ((HF6.out n hn).failF 47).less (by omega))
      | true =>
       by_cases hsn : nm.data.toList ∈ (ns.take i).map (fun b => b.data.toList)
       ·have e0 : (((putF free st2 [44]).e : Int) != 0) = false := by rw [he]; rfl
        have HER := am he
        clear he
        have HN := am (show (45 : Int) = ((45 : Nat) : Int) from rfl)
        have HV := am hv
        clear hv
        have HSN5 := am hsn
        clear hsn
        go_wp2_with (first | (go_at_call 52; (with_reducible refine (put_calls Wd free st2 sl3 ⟨#[44]⟩ _ ?rm5 ?wr5).mono ?_); (case rm5 => exact HR5.out); (case wr5 => exact HW3.out); rintro e w5 ⟨rfl, sl5, hw, ho⟩; have HW5 := am hw; have HO5 := am ho; clear hw ho; have HO35 := am (HO3.out.trans HO5.out); have HB5 := am (HW3.out.keepT HO5.out HB3.out (by decide) (by decide)); have HSE5 := am (HW3.out.keepM HO5.out HSE3.out); have HG5 := am (HG.out.on HO35.out); have x2 : w5.cell? ⟨Wd, 2, none⟩ = some (.int .i64 (putF free st2 [44]).e) := (blk_cell HW5.out.blk 2).trans rfl) | (go_at_call 75; (with_reducible refine (valid_calls nm _ true HV.out (by have := HNM.out; omega) ?tb).mono ?_); (case tb => exact HG5.out.tabs); rintro e w6 ⟨rfl, hb⟩; have HW6 := am (HW5.out.below hb); have HO6 := am (HO35.out.trans (WrOn.of_below (Nat.le_of_lt HW5.out.lt) hb)); have HN6 := am (WrOn.of_below (sl := sl5) (Nat.le_of_lt HW5.out.lt) hb); have HB6 := am (HW5.out.keepT HN6.out HB5.out (by decide) (by decide)); have HSE6 := am (HW5.out.keepM HN6.out HSE5.out); clear hb) | (at_lookup; obtain ⟨D, hD1, hD2, hD3⟩ := HSE6.out; refine wpList_lookup_own_int _ rfl _ _ 97 rfl 9 3 .i64 key9 Tryd.underlying97 Tryd.underlying3 (zero3 _) w1.heap.size (ns.take i).length D rfl hD2 (.string nm) (.string nm.data.toList) rfl HKEY.out ?_; intro cc hat hwc; rw [hD3 nm.data.toList, if_pos HSN5.out] at hat; injection hat with hat; injection hat with _ hat; subst hat; have HD1 := am hD1; have HD2 := am hD2; have HD3 := am hD3; clear hD1 hD2 hD3 hwc) | (go_at_call 50; (with_reducible refine (wfail_calls Wd free (putF free st2 [44]) sl5 45 45 HN.out _ ?wrf).mono ?_); (case wrf => exact HW6.out); rintro e w9 ⟨rfl, hw, ho⟩; have HW9 := am hw; have HO9 := am ho; clear hw ho))
        (try simp only [Exit.inBlock, Exit.then])
        refine ⟨rfl, .tuple #[], results_none rfl _ _ _, ?_⟩
        exact VEnds.of (Below.refl _ _) HL.out (HO6.out.trans HO9.out) HW9.out (HX5.out.over (mW_C H5.out HER.out HV.out HSN5.out) (failF_e _ _ (by decide))) (fun n hn => ((HF6.out n hn).failF 45).less (by omega))
       ·have e0 : (((putF free st2 [44]).e : Int) != 0) = false := by rw [he]; rfl
        have HER := am he
        clear he
        have HV := am hv
        have HSN5 := am hsn
        clear hv hsn
        have HF8 := am (show ∀ n, Fit free st (wt + n) → Fit free (putsF free (putF free st2 [44]) (quoteB nm)) (1 + (wtJ r y + (wtN (ns.drop (i + 1)) + wtI r (ys.drop (i + 1)) + 1 + n))) from fun n hn => (HF6.out n hn).quote nm (by omega))
        have HF9 := am (show ∀ n, Fit free st (wt + n) → Fit free (putF free (putsF free (putF free st2 [44]) (quoteB nm)) [58]) (wtJ r y + (wtN (ns.drop (i + 1)) + wtI r (ys.drop (i + 1)) + 1 + n)) from fun n hn => (HF8.out n hn).put [58] (by rw [List.length_singleton]; omega))
        have HX6 := am (show Sm canon (membersW free (valW free canon r) (ns.take (i + 1)) (i + 1) (ns.drop (i + 1)) (ys.drop (i + 1)) (valW free canon r y (putF free (putsF free (putF free st2 [44]) (quoteB nm)) [58]))) (membersW free (valW free canon r) [] 0 ns ys (putF free st [123])) from by have := HX5.out; rw [mW_D H5.out HER.out HV.out HSN5.out] at this; rw [HTK.out]; exact this)
        have HR8 := am ((HF6.out 0 HF.out).room (m := 12 * nm.size + 14) (by have := HWT.out; omega) (by have := HNM.out; omega))
        have HR9 := am ((HF8.out 0 HF.out).room (m := 1) (by omega) (by omega))
        have htl : (ns.take i).length ≤ 9223372036854775806 := by rw [List.length_take]; omega
        clear HX5
        go_wp2_with (first | (go_at_call 52; (with_reducible refine (put_calls Wd free st2 sl3 ⟨#[44]⟩ _ ?rm5 ?wr5).mono ?_); (case rm5 => exact HR5.out); (case wr5 => exact HW3.out); rintro e w5 ⟨rfl, sl5, hw, ho⟩; have HW5 := am hw; have HO5 := am ho; clear hw ho; have HO35 := am (HO3.out.trans HO5.out); have HB5 := am (HW3.out.keepT HO5.out HB3.out (by decide) (by decide)); have HSE5 := am (HW3.out.keepM HO5.out HSE3.out); have HG5 := am (HG.out.on HO35.out); have x2 : w5.cell? ⟨Wd, 2, none⟩ = some (.int .i64 (putF free st2 [44]).e) := (blk_cell HW5.out.blk 2).trans rfl) | (go_at_call 75; (with_reducible refine (valid_calls nm _ true HV.out (by have := HNM.out; omega) ?tb).mono ?_); (case tb => exact HG5.out.tabs); rintro e w6 ⟨rfl, hb⟩; have HW6 := am (HW5.out.below hb); have HO6 := am (HO35.out.trans (WrOn.of_below (Nat.le_of_lt HW5.out.lt) hb)); have HN6 := am (WrOn.of_below (sl := sl5) (Nat.le_of_lt HW5.out.lt) hb); have HB6 := am (HW5.out.keepT HN6.out HB5.out (by decide) (by decide)); have HSE6 := am (HW5.out.keepM HN6.out HSE5.out); clear hb) | (at_lookup; obtain ⟨D, hD1, hD2, hD3⟩ := HSE6.out; refine wpList_lookup_own_int _ rfl _ _ 97 rfl 9 3 .i64 key9 Tryd.underlying97 Tryd.underlying3 (zero3 _) w1.heap.size (ns.take i).length D rfl hD2 (.string nm) (.string nm.data.toList) rfl HKEY.out ?_; intro cc hat hwc; rw [hD3 nm.data.toList, if_neg HSN5.out] at hat; injection hat with hat; injection hat with _ hat; subst hat; have HD1 := am hD1; have HD2 := am hD2; have HD3 := am hD3; clear hD1 hD2 hD3 hwc) | (at_mapUpdate; refine wpList_mapUpdate_own _ rfl _ _ _ 97 rfl 9 3 key9 Tryd.underlying97 _ w1.heap.size (ns.take i).length _ rfl HD2.out (by unfold maxLen; omega) _ _ _ rfl rfl HKEY.out _ [] (plainElem_int Tryd.underlying3 (by decide)) ?_; intro w7 hown7 hg7; have HW7 := am (HW6.out.mapped HSE6.out hg7); have HO7 := am (HO6.out.mapped HMW.out HL.out hg7); have HB7 := am (blk_grownM HB6.out HSE6.out hg7); have HSE7 := am (show Seen w7 w1.heap.size (ns.take (i + 1)) from HTK.out ▸ seen_put (W := w6) nm HD1.out HD3.out hown7); clear hown7 hg7) | (go_at_call 53; (with_reducible refine (quote_calls Wd free (putF free st2 [44]) sl5 nm _ HNM.out ?rm8 ?wr8).mono ?_); (case rm8 => exact HR8.out); (case wr8 => exact HW7.out); rintro e w8 ⟨rfl, sl8, hw, ho⟩; have HW8 := am hw; have HO8 := am (HO7.out.trans ho); have HB8 := am (HW7.out.keepT ho HB7.out (by decide) (by decide)); have HSE8 := am (HW7.out.keepM ho HSE7.out); clear hw ho) | (go_at_call 52; (with_reducible refine (put_calls Wd free (putsF free (putF free st2 [44]) (quoteB nm)) sl8 ⟨#[58]⟩ _ ?rm9 ?wr9).mono ?_); (case rm9 => exact HR9.out); (case wr9 => exact HW8.out); rintro e w9 ⟨rfl, sl9, hw, ho⟩; have HW9 := am hw; have HO9 := am (HO8.out.trans ho); have HB9 := am (HW8.out.keepT ho HB8.out (by decide) (by decide)); have HSE9 := am (HW8.out.keepM ho HSE8.out); clear hw ho; have x9 : w9.cell? ⟨W.heap.size, 1, none⟩ = some (.slice (some ae) ys.length c3) := (blk_cell HB9.out 1).trans rfl; obtain ⟨ae', B2', k2', B3', k3', e9, z0, z1, z2, z3, m2, g2, m3, g3⟩ := HE9.out w9 sl9 HO9.out; injection e9 with e9; subst e9; have HM2 := am m2; have HM3 := am m3; have HG2 := am g2; have HG3 := am g3; clear m2 m3 g2 g3) | (go_at_call 33; (with_reducible refine (HI.out Wd (putF free (putsF free (putF free st2 [44]) (quoteB nm)) [58]) sl9 _ y B2' B3' k2' k3' ?w10 ?f10 HSY.out HLY.out ?s102 HM2.out ?s103 HM3.out ?g10).mono ?_); (case w10 => exact HW9.out); (case f10 => exact (HF9.out 0 HF.out).less (by omega)); (case s102 => exact HG2.out); (case s103 => exact HG3.out); (case g10 => exact HG.out.on HO9.out); rintro e w10 ⟨rfl, st10, sl10, hs, hf, hw, ho⟩; have HS10 := am hs; have HV10 := am hf; have HW10 := am hw; have HO10 := am (HO9.out.trans ho); have HB10 := am (HW9.out.keepT ho HB9.out (by decide) (by decide)); have HSE10 := am (HW9.out.keepM ho HSE9.out); clear hs hf hw ho))
        go_roundg g
        case measure => omega
        case rel => exact ⟨i + 1, st10, sl10, (by first | exact congrArg (Value.int .i64) HWN.out | exact congrArg (Value.int .i64) (show (i : Int) + 1 = ((i + 1 : Nat) : Int) by omega)), by omega, by omega, HW10, HO10, HB10, HSE10, ⟨fun n hn => HV10.out _ (HF9.out n hn)⟩, ⟨(HS10.out.members free _ _ _ _).trans HX6.out⟩⟩
     ·have e0 : (((putF free st2 [44]).e : Int) != 0) = true := by
       have : ¬ ((putF free st2 [44]).e : Int) = 0 := by omega
       simp only [bne_iff_ne, ne_eq]
       exact this
      have HER := am he
      clear he
      go_wp2_with (first | (go_at_call 52; (with_reducible refine (put_calls Wd free st2 sl3 ⟨#[44]⟩ _ ?rm5 ?wr5).mono ?_); (case rm5 => exact HR5.out); (case wr5 => exact HW3.out); rintro e w5 ⟨rfl, sl5, hw, ho⟩; have HW5 := am hw; have HO5 := am ho; clear hw ho; have HO35 := am (HO3.out.trans HO5.out); have HB5 := am (HW3.out.keepT HO5.out HB3.out (by decide) (by decide)); have HSE5 := am (HW3.out.keepM HO5.out HSE3.out); have HG5 := am (HG.out.on HO35.out); have x2 : w5.cell? ⟨Wd, 2, none⟩ = some (.int .i64 (putF free st2 [44]).e) := (blk_cell HW5.out.blk 2).trans rfl))
      (try simp only [Exit.inBlock, Exit.then])
      refine ⟨rfl, .tuple #[], results_none rfl _ _ _, ?_⟩
      exact VEnds.of (Below.refl _ _) HL.out HO35.out HW5.out (HX5.out.over (mW_A H5.out HER.out) HER.out) (fun n hn => (HF6.out n hn).less (by omega))
  ·have p2 : ((i : Int) < (ns.length : Int)) = False := eq_false (by omega)
   have hie : ns.drop i = [] := List.drop_eq_nil_of_le (by omega)
   have hie2 : ys.drop i = [] := List.drop_eq_nil_of_le (by have := HNY.out; omega)
   have HX5 := am (show Sm canon st2 (membersW free (valW free canon r) [] 0 ns ys (putF free st [123])) from by have := HX3.out; rw [hie, hie2] at this; exact this)
   have HF5 := am (show ∀ n, Fit free st (wt + n) → Fit free st2 (1 + n) from fun n hn => (HF3.out n hn).less (by omega))
   clear hie hie2 HX3 HF3
   go_wp2_with (go_at_call 52; (with_reducible refine (put_calls Wd free st2 sl3 ⟨#[125]⟩ _ ?rm9 ?wr9).mono ?_); (case rm9 => exact (HF5.out 0 HF.out).room (m := 1) (by omega) (by omega)); (case wr9 => exact HW3.out); rintro e w9 ⟨rfl, sl9, hw, ho⟩; have HW9 := am hw; have HO9 := am ho; clear hw ho)
   (try simp only [Exit.inBlock, Exit.then])
   refine ⟨rfl, .tuple #[], results_none rfl _ _ _, ?_⟩
   exact VEnds.of (Below.refl _ _) HL.out (HO3.out.trans HO9.out) HW9.out (HX5.out.put free [125]) (fun n hn => (HF5.out n hn).put [125] (by rw [List.length_singleton]; omega))
end Go.Proofs.YtaalajhmfdcalaaDoor.X
namespace Go.Proofs.YtaalajhmfdcalaaDoor.X
open Go.RowKit Go.Lib Go.Proofs.YtaalajhmfdcalaaDoorW.PrintWords Go.Proofs.YtaalajhmfdcalaaDoorW.PrintLast Go.Proofs.YtaalajhmfdcalaaDoorW.PrintMore
def SortedOK : Prop :=
 ∀ (W : World) (ok : Nat → Prop) (A2 A3 : Option Addr) (c2 c3 : Nat) (ns : List ByteArray) (ys : List J), ns.length = ys.length → ns.length ≤ 1000000 → Kd.F Kd.string W ok A2 ns.length ns → ns.length ≤ c2 → Kd.F k25 W ok A3 ys.length ys → ys.length ≤ c3 →
  Calls Tryd.prog 54 #[.agg #[.slice A2 ns.length c2, .slice A3 ys.length c3]] W fun x W' =>
   ∃ (B2 B3 : Option Addr) (k2 k3 : Nat) (ns' : List ByteArray) (ys' : List J), x = .returned (.agg #[.slice B2 ns'.length k2, .slice B3 ys'.length k3]) ∧ Below W.heap.size W W' ∧ ns'.length = ys'.length ∧ ns'.length ≤ k2 ∧ ys'.length ≤ k3 ∧ (ns'.zip ys').Perm (ns.zip ys) ∧
    (ns.Nodup → ns' = namesOf true ns ys ∧ ys' = itemsOf true ns ys) ∧ Kd.F Kd.string W' (fun k => ok k ∨ W.heap.size ≤ k) B2 ns'.length ns' ∧ Kd.F k25 W' (fun k => ok k ∨ W.heap.size ≤ k) B3 ys'.length ys'
theorem insF_perm (x : ByteArray × J) : ∀ l, (insF x l).Perm (x :: l)
 | [] => .refl _
 | y :: l => by
  unfold insF
  split
  ·exact ((insF_perm x l).cons y).trans (.swap _ _ _)
  ·exact .refl _
theorem sortF_perm' : ∀ (l a : List (ByteArray × J)), (l.foldl (fun a x => insF x a) a).Perm (a ++ l)
 | [], a => by simp
 | x :: l, a => by
  refine (sortF_perm' l (insF x a)).trans (((insF_perm x a).append_right l).trans ?_)
  simp only [List.cons_append]
  exact List.perm_middle.symm
theorem sortF_perm (l : List (ByteArray × J)) : (sortF l).Perm l := by
 have := sortF_perm' l []
 simpa [sortF] using this
theorem map_fst_zip {ns : List ByteArray} {ys : List J} (h : ns.length = ys.length) : (ns.zip ys).map Prod.fst = ns := List.map_fst_zip (by omega)
theorem map_snd_zip {ns : List ByteArray} {ys : List J} (h : ns.length = ys.length) : (ns.zip ys).map Prod.snd = ys := List.map_snd_zip (by omega)
theorem namesOf_len {ns : List ByteArray} {ys : List J} (c : Bool) (h : ns.length = ys.length) : (namesOf c ns ys).length = (itemsOf c ns ys).length := by
 cases c with
 | false => exact h
 | true => simp [namesOf, itemsOf]
theorem namesOf_perm {ns : List ByteArray} {ys : List J} (h : ns.length = ys.length) : (namesOf true ns ys).Perm ns := by
 have := (sortF_perm (ns.zip ys)).map Prod.fst
 rw [map_fst_zip h] at this
 exact this
theorem order_any (free : Bool) {one : J → St → St} (ho : Quits one) {ns ns' : List ByteArray} {ys ys' : List J} (a : St) (h : ns.length = ys.length) (h' : ns'.length = ys'.length) (hp : (ns'.zip ys').Perm (ns.zip ys)) (hn : ns.Nodup → ns' = namesOf true ns ys ∧ ys' = itemsOf true ns ys) :
  Sm true (putF free (membersW free one [] 0 ns' ys' a) [125]) (putF free (membersW free one [] 0 (namesOf true ns ys) (itemsOf true ns ys) a) [125]) := by
 by_cases hd : ns.Nodup
 ·obtain ⟨h1, h2⟩ := hn hd
  rw [h1, h2]
  exact Sm.refl _ _
 ·have p1 : ns'.Perm ns := by
   have := hp.map Prod.fst
   rw [map_fst_zip h, map_fst_zip h'] at this
   exact this
  have e1 := membersW_twice free ho ns' ys' [] 0 a h' List.nodup_nil (fun hh => hd (p1.nodup_iff.1 hh))
  have e2 := membersW_twice free ho (namesOf true ns ys) (itemsOf true ns ys) [] 0 a (namesOf_len true h) List.nodup_nil (fun hh => hd ((namesOf_perm h).nodup_iff.1 hh))
  rw [putF_bad _ _ _ e1, putF_bad _ _ _ e2]
  exact .inr ⟨rfl, e1, e2⟩
theorem VEnds.from {Wd : Nat} {free canon : Bool} {st tg tg' : St} {sl : Value} {W w0 w1 : World} {wt : Nat} {x : Ending} (h : VEnds Wd free canon st sl w0 wt tg' x w1) (hb : Below W.heap.size W w0) (hW : Wd ≤ W.heap.size) (hs : Sm canon tg' tg) : VEnds Wd free canon st sl W wt tg x w1 := by
 obtain ⟨rfl, st', sl', h1, h2, h3, h4⟩ := h
 exact VEnds.of hb hW h4 h3 (h1.trans hs) h2
set_option maxRecDepth 1000000 in
set_option maxHeartbeats 4000000 in
theorem value_obj (Wd : Nat) (free : Bool) (st : St) (sl : Value) (d : Int) (f1 : ByteArray) (A2 A3 : Option Addr) (n2 c2 n3 c3 : Nat) (W : World) (wt : Nat) (h : Wr Wd free st sl W) (l2 : List ByteArray) (l3 : List J) (hn2 : n2 = l2.length) (hn3 : n3 = l3.length) (hny : l2.length = l3.length) (r : Nat) (he : st.e = 0) (h1 : ¬ (32 : Int) < d) (h2 : ¬ (32 : Int) ≤ d) (hok : nodeOK 6 f1 n2 n3 = true) (hG : Gl Wd W) (hwt : wtN l2 + wtI r l3 + 2 ≤ wt) (hfit : Fit free st wt) (hsn : ∀ s, s ∈ l2 → s.size ≤ 288230376151711743) (hsm : ∀ y, y ∈ l3 → SmJ r y) (hln : false = true → l3.length ≤ 1000000 ∧ ∀ y, y ∈ l3 → LnJ r y) (hF2 : Kd.F Kd.string W (okW Wd sl) A2 n2 l2) (hc2 : n2 ≤ c2) (hF3 : Kd.F k25 W (okW Wd sl) A3 n3 l3) (hc3 : n3 ≤ c3) (IH : WOK free false r (wrap64 (d + 1))) :
  Calls Tryd.prog 33 #[ptr Wd, jVal 6 f1 A2 A3 n2 c2 n3 c3, .int .i64 d, .bool false] W (VEnds Wd free false st sl W wt (putF free (membersW free (valW free false r) [] 0 l2 l3 (putF free st [123])) [125])) := by
 have H := am h
 have HL := am (Nat.le_of_lt h.lt)
 have cw2 : ∀ o : Obj, (W.alloc o).cell? ⟨Wd, 2, none⟩ = some (.int .i64 st.e) := fun o => (World.cell?_of_block (Below.block (below_alloc (Below.refl _ _) o) _ h.lt)).trans ((blk_cell h.blk 2).trans rfl)
 clear h
 have e0 : ((st.e : Int) != 0) = false := by rw [he]; rfl
 subst hn2
 subst hn3
 have b1 : decide ((32 : Int) < d) = false := decide_eq_false h1
 have b2 : decide ((32 : Int) ≤ d) = false := decide_eq_false h2
 have HOK := am hok
 have HG := am hG
 have HF := am hfit
 have HSN := am hsn
 have HS := am hsm
 have HLN := am hln
 have HX2 := am hF2
 have HX := am hF3
 have HI := am IH
 have HNY := am hny
 clear he hok hG hfit hsn hsm hln hF2 hF3 IH hny
 have ta := is_84
 have tb := no_84_78
 have tc := no_84_80
 have td := no_84_82
 go_enter Tryd.func33, Tryd.ntmps33
 go_wp2_with (first | (go_at_call 51; (with_reducible refine (node_yes6 f1 A2 A3 l2.length c2 l3.length c3 _ HOK.out).mono ?_); rintro e w1 ⟨rfl, hb⟩; have HB1 := am (show Below W.heap.size W w1 from below_step (by repeat (first | exact Below.refl _ _ | apply below_drewN | apply below_drew1 | apply below_alloc)) hb); clear hb) | (go_at_call 55; (with_reducible refine (members_calls Wd free false st sl d A2 A3 c2 c3 _ wt l2 l3 HNY.out r ?wm ?gm hwt HF.out HSN.out HS.out (fun h => by cases h) ?f2 hc2 ?f3 hc3 HI.out).mono ?_); (case wm => exact H.out.below (by repeat (first | exact HB1.out | exact Below.refl _ _ | apply below_drewN | apply below_drew1 | apply below_alloc | refine below_set ?_ HB1.out.size))); (case gm => exact HG.out.below (by repeat (first | exact HB1.out | exact Below.refl _ _ | apply below_drewN | apply below_drew1 | apply below_alloc | refine below_set ?_ HB1.out.size)) HL.out); (case f2 => exact Kd.F_below HX2.out (by repeat (first | exact HB1.out | exact Below.refl _ _ | apply below_drewN | apply below_drew1 | apply below_alloc | refine below_set ?_ HB1.out.size))); (case f3 => exact Kd.F_below HX.out (by repeat (first | exact HB1.out | exact Below.refl _ _ | apply below_drewN | apply below_drew1 | apply below_alloc | refine below_set ?_ HB1.out.size))); intro e w9 hv; have HV := am hv; obtain ⟨rfl, _⟩ := hv))
 (try simp only [Exit.inBlock, Exit.then])
 refine ⟨rfl, .tuple #[], results_none rfl _ _ _, ?_⟩
 exact VEnds.from HV.out (by repeat (first | exact HB1.out | exact Below.refl _ _ | apply below_drewN | apply below_drew1 | apply below_alloc | refine below_set ?_ HB1.out.size)) HL.out (Sm.refl _ _)
theorem far_obj {α : Type} {dd : Kd α} {Wd n : Nat} {free : Bool} {st : St} {sl : Value} {W w1 w2 : World} {o : Obj} {A : Option Addr} {xs : List α} (h : Wr Wd free st sl W) (hs : W.heap.size ≤ w1.heap.size) (hf : Kd.F dd w2 (fun k => (okW Wd sl k ∧ k < w1.heap.size) ∨ (w1.alloc o).heap.size ≤ k) A n xs) (u v : Value) :
  Kd.F dd ((w2.setCell ⟨w1.heap.size, 0, none⟩ u).setCell ⟨w1.heap.size, 1, none⟩ v) (okW Wd sl) A n xs := by
 have hne : ∀ k, ((okW Wd sl k ∧ k < w1.heap.size) ∨ (w1.alloc o).heap.size ≤ k) → k ≠ w1.heap.size := by
  rintro k (⟨_, hk⟩ | hk)
  ·omega
  ·rw [World.size_alloc] at hk; omega
 refine Kd.F_mono (Kd.F_far (p := ⟨w1.heap.size, 1, none⟩) (Kd.F_far (p := ⟨w1.heap.size, 0, none⟩) hf hne _) hne _) ?_
 rintro k (⟨hk, _⟩ | hk)
 ·exact hk
 ·rw [World.size_alloc] at hk
  exact ⟨by have := h.lt; omega, fun hh => by have := (h.own.lt k hh.symm).2; omega⟩
theorem perm_names {P : ByteArray → Prop} {ns ns' : List ByteArray} {ys ys' : List J} (h : ∀ s, s ∈ ns → P s) (h1 : ns.length = ys.length) (h2 : ns'.length = ys'.length) (hp : (ns'.zip ys').Perm (ns.zip ys)) : ∀ s, s ∈ ns' → P s := by
 have := hp.map Prod.fst
 rw [map_fst_zip h1, map_fst_zip h2] at this
 exact fun s hs => h s (this.mem_iff.1 hs)
theorem perm_items {P : J → Prop} {ns ns' : List ByteArray} {ys ys' : List J} (h : ∀ y, y ∈ ys → P y) (h1 : ns.length = ys.length) (h2 : ns'.length = ys'.length) (hp : (ns'.zip ys').Perm (ns.zip ys)) : ∀ y, y ∈ ys' → P y := by
 have := hp.map Prod.snd
 rw [map_snd_zip h1, map_snd_zip h2] at this
 exact fun s hs => h s (this.mem_iff.1 hs)
theorem perm_sum {a b : List Nat} (h : a.Perm b) : a.sum = b.sum := by
 induction h with
 | nil => rfl
 | cons x _ ih => simp [ih]
 | swap x y l => simp only [List.sum_cons]; omega
 | trans _ _ h1 h2 => exact h1.trans h2
theorem perm_wt (r : Nat) {ns ns' : List ByteArray} {ys ys' : List J} (h1 : ns.length = ys.length) (h2 : ns'.length = ys'.length) (hp : (ns'.zip ys').Perm (ns.zip ys)) : wtN ns' + wtI r ys' + 2 = wtN ns + wtI r ys + 2 := by
 have a := hp.map Prod.fst
 have b := hp.map Prod.snd
 rw [map_fst_zip h1, map_fst_zip h2] at a
 rw [map_snd_zip h1, map_snd_zip h2] at b
 have c : wtN ns' = wtN ns := perm_sum (a.map _)
 have d : wtI r ys' = wtI r ys := perm_sum (b.map _)
 rw [c, d]
set_option maxRecDepth 1000000 in
set_option maxHeartbeats 4000000 in
theorem value_objC (Wd : Nat) (free : Bool) (st : St) (sl : Value) (d : Int) (f1 : ByteArray) (A2 A3 : Option Addr) (n2 c2 n3 c3 : Nat) (W : World) (wt : Nat) (h : Wr Wd free st sl W) (l2 : List ByteArray) (l3 : List J) (hn2 : n2 = l2.length) (hn3 : n3 = l3.length) (hny : l2.length = l3.length) (r : Nat) (he : st.e = 0) (h1 : ¬ (32 : Int) < d) (h2 : ¬ (32 : Int) ≤ d) (hok : nodeOK 6 f1 n2 n3 = true) (hG : Gl Wd W) (hwt : wtN l2 + wtI r l3 + 2 ≤ wt) (hfit : Fit free st wt) (hsn : ∀ s, s ∈ l2 → s.size ≤ 288230376151711743) (hsm : ∀ y, y ∈ l3 → SmJ r y) (hln : true = true → l3.length ≤ 1000000 ∧ ∀ y, y ∈ l3 → LnJ r y) (hF2 : Kd.F Kd.string W (okW Wd sl) A2 n2 l2) (hc2 : n2 ≤ c2) (hF3 : Kd.F k25 W (okW Wd sl) A3 n3 l3) (hc3 : n3 ≤ c3) (IH : WOK free true r (wrap64 (d + 1))) (hso : SortedOK) :
  Calls Tryd.prog 33 #[ptr Wd, jVal 6 f1 A2 A3 n2 c2 n3 c3, .int .i64 d, .bool true] W (VEnds Wd free true st sl W wt (putF free (membersW free (valW free true r) [] 0 (namesOf true l2 l3) (itemsOf true l2 l3) (putF free st [123])) [125])) := by
 have H := am h
 have HL := am (Nat.le_of_lt h.lt)
 have cw2 : ∀ o : Obj, (W.alloc o).cell? ⟨Wd, 2, none⟩ = some (.int .i64 st.e) := fun o => (World.cell?_of_block (Below.block (below_alloc (Below.refl _ _) o) _ h.lt)).trans ((blk_cell h.blk 2).trans rfl)
 clear h
 have e0 : ((st.e : Int) != 0) = false := by rw [he]; rfl
 subst hn2
 subst hn3
 have b1 : decide ((32 : Int) < d) = false := decide_eq_false h1
 have b2 : decide ((32 : Int) ≤ d) = false := decide_eq_false h2
 have HOK := am hok
 have HG := am hG
 have HF := am hfit
 have HSN := am hsn
 have HS := am hsm
 have HLN := am hln
 have HX2 := am hF2
 have HX := am hF3
 have HI := am IH
 have HNY := am hny
 clear he hok hG hfit hsn hsm hln hF2 hF3 IH hny
 have ta := is_84
 have tb := no_84_78
 have tc := no_84_80
 have td := no_84_82
 unfold SortedOK at hso
 have HSO := am hso
 clear hso
 go_enter Tryd.func33, Tryd.ntmps33
 go_wp2_with (first | (go_at_call 51; (with_reducible refine (node_yes6 f1 A2 A3 l2.length c2 l3.length c3 _ HOK.out).mono ?_); rintro e w1 ⟨rfl, hb⟩; have HB1 := am (show Below W.heap.size W w1 from below_step (by repeat (first | exact Below.refl _ _ | apply below_drewN | apply below_drew1 | apply below_alloc)) hb); clear hb) | (go_at_call 54; (with_reducible refine (HSO.out _ (fun k => okW Wd sl k ∧ k < w1.heap.size) A2 A3 c2 c3 l2 l3 HNY.out ?ln ?f2 hc2 ?f3 hc3).mono ?_); (case ln => rw [HNY.out]; exact (HLN.out (by first | rfl | trivial)).1); (case f2 => exact Kd.F_alloc (Kd.F_mono (Kd.F_bound (Kd.F_below HX2.out HB1.out)) (fun _ hk => hk)) _); (case f3 => exact Kd.F_alloc (Kd.F_mono (Kd.F_bound (Kd.F_below HX.out HB1.out)) (fun _ hk => hk)) _); rintro e w2 ⟨B2, B3, k2, k3, ns', ys', rfl, hb2, hl', hk2, hk3, hp, hnd, hf2, hf3⟩; have HB2 := am hb2; have HP := am hp; have HND := am hnd; have HF2 := am hf2; have HF3 := am hf3; have HL' := am hl'; have BK := am ((hb2.block w1.heap.size (by rw [World.size_alloc]; omega)).trans (heap_alloc_new w1 (.cells #[.slice A2 l2.length c2, .slice A3 l3.length c3] 84))); have y0 : w2.cell? ⟨w1.heap.size, 0, none⟩ = some (.slice A2 l2.length c2) := (blk_cell BK.out 0).trans rfl; have y1 : w2.cell? ⟨w1.heap.size, 1, none⟩ = some (.slice A3 l3.length c3) := (blk_cell BK.out 1).trans rfl; have z0 := blk_free BK.out 0; have z1 := blk_free BK.out 1; have HK2 := am hk2; have HK3 := am hk3; have HSN' := am (perm_names HSN.out HNY.out hl' hp); have HS' := am (perm_items HS.out HNY.out hl' hp); have HLN' := am (show true = true → ∀ y, y ∈ ys' → LnJ r y from fun _ => perm_items (HLN.out (by first | rfl | trivial)).2 HNY.out hl' hp); have HWN := am (perm_wt r HNY.out hl' hp); clear hk2 hk3 hb2 hp hnd hf2 hf3 hl') | (go_at_call 55; (with_reducible refine (members_calls Wd free true st sl d B2 B3 k2 k3 _ wt ns' ys' HL'.out r ?wm ?gm (by rw [HWN.out]; exact hwt) HF.out HSN'.out HS'.out (fun _ => HLN'.out (by first | rfl | trivial)) ?f2 HK2.out ?f3 HK3.out HI.out).mono ?_); (case wm => exact H.out.below (below_set (below_set (below_step (below_alloc HB1.out _) HB2.out) HB1.out.size) HB1.out.size)); (case gm => exact HG.out.below (below_set (below_set (below_step (below_alloc HB1.out _) HB2.out) HB1.out.size) HB1.out.size) HL.out); (case f2 => exact far_obj H.out HB1.out.size HF2.out _ _); (case f3 => exact far_obj H.out HB1.out.size HF3.out _ _); intro e w9 hv; have HV := am hv; obtain ⟨rfl, _⟩ := hv))
 (try simp only [Exit.inBlock, Exit.then])
 refine ⟨rfl, .tuple #[], results_none rfl _ _ _, ?_⟩
 exact VEnds.from HV.out (below_set (below_set (below_step (below_alloc HB1.out _) HB2.out) HB1.out.size) HB1.out.size) HL.out (order_any free (fun y st h => valW_bad free true r y st h) _ HNY.out HL'.out HP.out HND.out)
theorem nodeOK_plain {f0 : Int} {f1 : ByteArray} {n2 n3 : Nat} (h : nodeOK f0 f1 n2 n3 = true) (h5 : ¬ f0 = 5) (h6 : ¬ f0 = 6) : f0 = 0 ∨ f0 = 1 ∨ f0 = 2 ∨ f0 = 3 ∨ f0 = 4 := by
 by_cases h0 : f0 = 0
 ·exact .inl h0
 by_cases h1 : f0 = 1
 ·exact .inr (.inl h1)
 by_cases h2 : f0 = 2
 ·exact .inr (.inr (.inl h2))
 by_cases h3 : f0 = 3
 ·exact .inr (.inr (.inr (.inl h3)))
 by_cases h4 : f0 = 4
 ·exact .inr (.inr (.inr (.inr h4)))
 exfalso
 unfold nodeOK at h
 simp [h0, h1, h2, h3, h4, h5, h6] at h
theorem valW_plain (free canon : Bool) (r : Nat) (v : J) (st : St) (he : st.e = 0) (h5 : ¬ v.f0 = 5) (h6 : ¬ v.f0 = 6) :
  valW free canon r v st = if nodeOK v.f0 v.f1 v.f2.length v.f3.length = false then ⟨st.out, 47⟩ else if v.f0 = 3 then putF free st v.f1.data.toList else if v.f0 = 4 then putsF free st (quoteB v.f1) else putF free st (wordB v.f0.toNat).data.toList := by
 cases r with
 | zero => rw [valW, if_neg (by simp [he]), if_neg (by simp [h5, h6])]
 | succ r => rw [valW, if_neg (by simp [he])]; split <;> first | rfl | rw [if_neg h5, if_neg h6]
theorem plain_ok (free canon : Bool) (r : Nat) (d : Int) (hd : ¬ (32 : Int) < d) (Wd : Nat) (st : St) (sl : Value) (W : World) (v : J) (A2 A3 : Option Addr) (c2 c3 : Nat) (h : Wr Wd free st sl W) (hfit : Fit free st (wtJ r v)) (hz : v.f1.size ≤ 288230376151711743) (hG : Gl Wd W) (he : st.e = 0) (h5 : ¬ v.f0 = 5) (h6 : ¬ v.f0 = 6) :
  Calls Tryd.prog 33 #[ptr Wd, jVal v.f0 v.f1 A2 A3 v.f2.length c2 v.f3.length c3, .int .i64 d, .bool canon] W (VEnds Wd free canon st sl W (wtJ r v) (valW free canon r v st)) := by
 rw [valW_plain free canon r v st he h5 h6]
 have hw := wtJ_text r v
 cases hok : nodeOK v.f0 v.f1 v.f2.length v.f3.length with
 | false => rw [if_pos rfl]; exact value_nodeX Wd free canon st sl d v.f0 v.f1 A2 A3 _ c2 _ c3 W _ h he hd h5 h6 (by omega) hok hG
 | true =>
  rw [if_neg (by decide)]
  rcases nodeOK_plain hok h5 h6 with h0 | h0 | h0 | h0 | h0
  ·rw [h0] at hok ⊢
   exact value_word0 Wd free canon st sl d v.f1 A2 A3 _ c2 _ c3 W _ h he hd hok hG (hfit.room (m := (wordB 0).size) (by show 4 ≤ _; omega) (by decide)) (by show 4 ≤ _; omega)
  ·rw [h0] at hok ⊢
   exact value_word1 Wd free canon st sl d v.f1 A2 A3 _ c2 _ c3 W _ h he hd hok hG (hfit.room (m := (wordB 1).size) (by show 5 ≤ _; omega) (by decide)) (by show 5 ≤ _; omega)
  ·rw [h0] at hok ⊢
   exact value_word2 Wd free canon st sl d v.f1 A2 A3 _ c2 _ c3 W _ h he hd hok hG (hfit.room (m := (wordB 2).size) (by show 4 ≤ _; omega) (by decide)) (by show 4 ≤ _; omega)
  ·rw [h0] at hok ⊢
   exact value_word3 Wd free canon st sl d v.f1 A2 A3 _ c2 _ c3 W _ h he hd (by omega) hok hG (hfit.room (m := v.f1.size) (by omega) (by omega)) (by omega)
  ·rw [h0] at hok ⊢
   exact value_text Wd free canon st sl d v.f1 A2 A3 _ c2 _ c3 W _ h he hd (by omega) hok hG hz (hfit.room (m := 12 * v.f1.size + 14) (by omega) (by omega)) (by omega)
theorem valW_succ (free canon : Bool) (r : Nat) (v : J) (st : St) (he : st.e = 0) : valW free canon (r + 1) v st =
  if nodeOK v.f0 v.f1 v.f2.length v.f3.length = false then ⟨st.out, 47⟩
  else if v.f0 = 5 then putF free (itemsW free (valW free canon r) 0 v.f3 (putF free st [91])) [93]
  else if v.f0 = 6 then putF free (membersW free (valW free canon r) [] 0 (namesOf canon v.f2 v.f3) (itemsOf canon v.f2 v.f3) (putF free st [123])) [125]
  else if v.f0 = 3 then putF free st v.f1.data.toList
  else if v.f0 = 4 then putsF free st (quoteB v.f1)
  else putF free st (wordB v.f0.toNat).data.toList := by
 rw [valW, if_neg (by simp [he])]
theorem node6_len {f1 : ByteArray} {n2 n3 : Nat} (h : nodeOK 6 f1 n2 n3 = true) : n2 = n3 := by
 unfold nodeOK at h
 simp at h
 exact h.2
theorem wvalue_ok (free canon : Bool) (hso : canon = true → SortedOK) : ∀ r, r ≤ 32 → WOK free canon r (32 - (r : Int))
 | 0, _ => by
  intro Wd st sl W v A2 A3 c2 c3 h hfit hsm _ hF2 hc2 hF3 hc3 hG
  by_cases he : st.e = 0
  ·by_cases h5 : v.f0 = 5
   ·rw [valW, if_neg (by simp [he]), if_pos (.inl h5), h5]
    exact value_deep5 Wd free canon st sl _ v.f1 A2 A3 _ c2 _ c3 W _ h he (by decide) (by decide)
   ·by_cases h6 : v.f0 = 6
    ·rw [valW, if_neg (by simp [he]), if_pos (.inr h6), h6]
     exact value_deep6 Wd free canon st sl _ v.f1 A2 A3 _ c2 _ c3 W _ h he (by decide) (by decide)
    ·exact plain_ok free canon 0 _ (by decide) Wd st sl W v A2 A3 c2 c3 h hfit hsm.text hG he h5 h6
  ·rw [valW_bad _ _ _ _ _ he]
   exact value_bad Wd free canon st sl _ v.f0 v.f1 A2 A3 _ c2 _ c3 W _ h he
 | r + 1, hr => by
  have IH := wvalue_ok free canon hso r (by omega)
  have ed : wrap64 ((32 - ((r + 1 : Nat) : Int)) + 1) = 32 - (r : Int) := by unfold wrap64; omega
  rw [← ed] at IH
  intro Wd st sl W v A2 A3 c2 c3 h hfit hsm hln hF2 hc2 hF3 hc3 hG
  have hd1 : ¬ (32 : Int) < 32 - ((r + 1 : Nat) : Int) := by omega
  have hd2 : ¬ (32 : Int) ≤ 32 - ((r + 1 : Nat) : Int) := by omega
  have hw : wtJ (r + 1) v = 12 * v.f1.size + 16 + wtN v.f2 + wtI r v.f3 := by rw [wtJ, wtN, wtI]
  obtain ⟨hz, hsn, hsy⟩ := (show v.f1.size ≤ 288230376151711743 ∧ (∀ s, s ∈ v.f2 → s.size ≤ 288230376151711743) ∧ ∀ y, y ∈ v.f3 → SmJ r y from hsm)
  by_cases he : st.e = 0
  ·by_cases h5 : v.f0 = 5
   ·rw [valW_succ free canon r v st he]
    rw [h5]
    cases hok : nodeOK 5 v.f1 v.f2.length v.f3.length with
    | false => rw [if_pos rfl]; exact value_node5 Wd free canon st sl _ v.f1 A2 A3 _ c2 _ c3 W _ h he hd1 hd2 (by omega) hok hG
    | true =>
     rw [if_neg (by decide), if_pos rfl]
     exact value_list Wd free canon st sl _ v.f1 A2 A3 _ c2 _ c3 W _ h v.f3 rfl r he hd1 hd2 hok hG (by omega) hfit hsy (fun hc => (show v.f3.length ≤ 1000000 ∧ ∀ y, y ∈ v.f3 → LnJ r y from hln hc).2) hF3 hc3 IH
   ·by_cases h6 : v.f0 = 6
    ·rw [valW_succ free canon r v st he]
     rw [h6]
     cases hok : nodeOK 6 v.f1 v.f2.length v.f3.length with
     | false => rw [if_pos rfl]; exact value_node6 Wd free canon st sl _ v.f1 A2 A3 _ c2 _ c3 W _ h he hd1 hd2 (by omega) hok hG
     | true =>
      rw [if_neg (by decide), if_neg (by decide), if_pos rfl]
      cases canon with
      | false => exact value_obj Wd free st sl _ v.f1 A2 A3 _ c2 _ c3 W _ h v.f2 v.f3 rfl rfl (node6_len hok) r he hd1 hd2 hok hG (by omega) hfit hsn hsy (fun hc => by cases hc) hF2 hc2 hF3 hc3 IH
      | true => exact value_objC Wd free st sl _ v.f1 A2 A3 _ c2 _ c3 W _ h v.f2 v.f3 rfl rfl (node6_len hok) r he hd1 hd2 hok hG (by omega) hfit hsn hsy (fun hc => hln hc) hF2 hc2 hF3 hc3 IH (hso rfl)
    ·exact plain_ok free canon (r + 1) _ hd1 Wd st sl W v A2 A3 c2 c3 h hfit hz hG he h5 h6
  ·rw [valW_bad _ _ _ _ _ he]
   exact value_bad Wd free canon st sl _ v.f0 v.f1 A2 A3 _ c2 _ c3 W _ h he
theorem heap25 : Kd.Heap k25 := Kd.heap_fix (fun _ hd => Kd.heap_iso _ (Kd.heap_pair (Kd.heap_int _) (Kd.heap_pair Kd.heap_string (Kd.heap_pair (Kd.heap_slice 9 Kd.heap_string) (Kd.heap_slice 25 hd)))))
def printS (v : J) : St := valW false false 32 v ⟨[], 0⟩
def printB (v : J) : ByteArray := if (printS v).e = 0 then bs (printS v).out else ⟨#[]⟩
theorem wr_new (free : Bool) (W : World) : Wr W.heap.size free ⟨[], 0⟩ (.slice none 0 0) (W.alloc (.cells #[.slice none 0 0, .bool free, .int .i64 0] 60)) :=
 ⟨heap_alloc_new W _, Own.nil _ _ (by rw [World.size_alloc]; omega)⟩
theorem fit_new (n : Nat) : Fit false ⟨[], 0⟩ n := ⟨(fun h => by cases h), (fun _ => by decide)⟩
set_option maxRecDepth 1000000 in
set_option maxHeartbeats 4000000 in
theorem print_calls (f0 : Int) (f1 : ByteArray) (l2 : List ByteArray) (l3 : List J) (A2 A3 : Option Addr) (c2 c3 : Nat) (W : World) (hsm : SmJ 32 ⟨f0, f1, l2, l3⟩) (hC2 : Kd.string.C W A2 l2.length l2) (hc2 : l2.length ≤ c2) (hC3 : k25.C W A3 l3.length l3) (hc3 : l3.length ≤ c3) (hG : GLw W) (hT : Tabs W) :
  Calls Tryd.prog 17 #[jVal f0 f1 A2 A3 l2.length c2 l3.length c3] W fun x W' => x = .returned (.tuple #[.string (printB ⟨f0, f1, l2, l3⟩), .int .i64 (printS ⟨f0, f1, l2, l3⟩).e]) ∧ Below W.heap.size W W' := by
 have hvo := wvalue_ok false false (fun h => by cases h) 32 (Nat.le_refl _)
 rw [show (32 : Int) - ((32 : Nat) : Int) = 0 by decide] at hvo
 have hval := fun (b : Obj) => hvo (W.alloc b).heap.size ⟨[], 0⟩ (.slice none 0 0) ((W.alloc b).alloc (.cells #[.slice none 0 0, .bool false, .int .i64 0] 60)) ⟨f0, f1, l2, l3⟩ A2 A3 c2 c3 (wr_new false _) (fit_new _) hsm (fun h => by cases h)
  (Kd.F_alloc (Kd.F_alloc (Kd.F_mono (Kd.C_F Kd.heap_string hC2) (fun k hk => ⟨by rw [World.size_alloc]; omega, by simp [Value.ownBlock]⟩)) b) _) hc2
  (Kd.F_alloc (Kd.F_alloc (Kd.F_mono (Kd.C_F heap25 hC3) (fun k hk => ⟨by rw [World.size_alloc]; omega, by simp [Value.ownBlock]⟩)) b) _) hc3
  (fun W' hb => have hb' : Below W.heap.size W W' := (below_alloc (below_alloc (Below.refl _ _) b) _).trans (hb.mono (by rw [World.size_alloc]; omega)); ⟨hG.below hb', hT.bel hb'⟩)
 simp only [World.size_alloc] at hval
 have HV := am hval
 clear hvo hval hsm hC2 hC3 hG hT hc2 hc3
 have HS := am (show printS ⟨f0, f1, l2, l3⟩ = valW false false 32 ⟨f0, f1, l2, l3⟩ ⟨[], 0⟩ from rfl)
 have HPB := am (show printB ⟨f0, f1, l2, l3⟩ = if (printS ⟨f0, f1, l2, l3⟩).e = 0 then bs (printS ⟨f0, f1, l2, l3⟩).out else ⟨#[]⟩ from rfl)
 generalize printS ⟨f0, f1, l2, l3⟩ = ps at *
 generalize printB ⟨f0, f1, l2, l3⟩ = pb at *
 by_cases he : ps.e = 0
 ·have e0 : ((ps.e : Int) != 0) = false := by rw [he]; rfl
  have HP := am (show pb = bs ps.out by rw [HPB.out, if_pos he])
  have HE := am he
  clear he
  go_enter Tryd.func17, Tryd.ntmps17
  go_wp2_with (go_at_call 33; (with_reducible refine (HV.out _).mono ?_); rintro e w1 ⟨rfl, st1, sl1, hs, _, hw, ho⟩; have hs' := hs.eq; rw [← HS.out] at hs'; subst hs'; have c2' := (blk_cell hw.blk 2).trans rfl; have c0' := (blk_cell hw.blk 0).trans rfl; have hcv := own_string hw.own; have HB := am (show Below W.heap.size W w1 from (below_alloc (below_alloc (Below.refl _ _) _) _).trans (ho.low.mono (by omega))); clear hs hw ho; dsimp at c2' c0')
  go_ret2
  rw [HP.out, HE.out]
  exact ⟨rfl, by repeat (first | exact HB.out | apply below_drewN | apply below_drew1)⟩
 ·have e0 : ((ps.e : Int) != 0) = true := by
   have : ¬ (ps.e : Int) = 0 := by omega
   simp only [bne_iff_ne, ne_eq]
   exact this
  have HP := am (show pb = ⟨#[]⟩ by rw [HPB.out, if_neg he])
  clear he
  go_enter Tryd.func17, Tryd.ntmps17
  go_wp2_with (go_at_call 33; (with_reducible refine (HV.out _).mono ?_); rintro e w1 ⟨rfl, st1, sl1, hs, _, hw, ho⟩; have hs' := hs.eq; rw [← HS.out] at hs'; subst hs'; have c2' := (blk_cell hw.blk 2).trans rfl; have c0' := (blk_cell hw.blk 0).trans rfl; have hcv := own_string hw.own; have HB := am (show Below W.heap.size W w1 from (below_alloc (below_alloc (Below.refl _ _) _) _).trans (ho.low.mono (by omega))); clear hs hw ho; dsimp at c2' c0')
  go_region
  go_wp2
  go_ret2
  rw [HP.out]
  exact ⟨rfl, by repeat (first | exact HB.out | apply below_drewN | apply below_drew1)⟩
end Go.Proofs.YtaalajhmfdcalaaDoor.X
namespace Go.Proofs.YtaalajhmfdcalaaDoor.X
open Go.RowKit Go.Lib Go.Proofs.YtaalajhmfdcalaaDoorW.PrintWords
def Head (c : UInt8) : Prop := isBl c = false ∧ c ≠ 93 ∧ c ≠ 125
theorem litF_head {l : List UInt8} (h : (litF l).2 = true) : ∃ c t, l = c :: t ∧ (c = 45 ∨ isDg c = true) := by
 cases l with
 | nil => exact absurd h (by decide)
 | cons c t =>
  refine ⟨c, t, rfl, ?_⟩
  by_cases h1 : c = 45
  ·exact .inl h1
  ·refine .inr ?_
   cases hd : isDg c with
   | true => rfl
   | false =>
    exfalso
    unfold litF at h
    have e0 : ¬ (c :: t)[0]? = some 45 := fun hh => h1 (by simpa using hh)
    simp only [if_neg e0] at h
    by_cases h48 : (c :: t)[0]? = some 48
    ·have : c = 48 := by simpa using h48
     rw [this] at hd
     exact absurd hd (by decide)
    ·rw [if_neg h48] at h
     have : digsF ((c :: t).drop 0) = 0 := digs_stop _ 0 (fun d hh => by
      have : c = d := by simpa using hh
      rw [← this]; exact hd)
     rw [if_pos this] at h
     cases h
theorem dg_head {c : UInt8} (h : c = 45 ∨ isDg c = true) : Head c ∧ ¬ c = 110 ∧ ¬ c = 116 ∧ ¬ c = 102 := by
 have key : ∀ n : Fin 256, (UInt8.ofNat n.val = 45 ∨ isDg (UInt8.ofNat n.val) = true) → (isBl (UInt8.ofNat n.val) = false ∧ UInt8.ofNat n.val ≠ 93 ∧ UInt8.ofNat n.val ≠ 125) ∧ ¬ UInt8.ofNat n.val = 110 ∧ ¬ UInt8.ofNat n.val = 116 ∧ ¬ UInt8.ofNat n.val = 102 := by decide +kernel
 have e : UInt8.ofNat c.toNat = c := by simp
 have := key ⟨c.toNat, c.toNat_lt⟩
 simp only [e] at this
 exact this h
theorem node0_ {f1 : ByteArray} {n2 n3 : Nat} {f0 : Int} (h0 : f0 = 0 ∨ f0 = 1 ∨ f0 = 2) (h : nodeOK f0 f1 n2 n3 = true) : f1.size = 0 ∧ n2 = 0 ∧ n3 = 0 := by
 unfold nodeOK at h
 rw [if_pos h0] at h
 simpa using h
theorem node3_ {f1 : ByteArray} {n2 n3 : Nat} (h : nodeOK 3 f1 n2 n3 = true) : litF f1.data.toList = (f1.size, true) ∧ n2 = 0 ∧ n3 = 0 := by
 unfold nodeOK at h
 simp at h
 exact ⟨Prod.ext h.2.1 h.1, h.2.2.1, h.2.2.2⟩
theorem node4_ {f1 : ByteArray} {n2 n3 : Nat} (h : nodeOK 4 f1 n2 n3 = true) : validD f1.data.toList = true ∧ n2 = 0 ∧ n3 = 0 := by
 unfold nodeOK at h
 simp at h
 exact h
theorem node5_ {f1 : ByteArray} {n2 n3 : Nat} (h : nodeOK 5 f1 n2 n3 = true) : f1.size = 0 ∧ n2 = 0 := by
 unfold nodeOK at h
 rw [if_neg (by decide), if_neg (by decide), if_neg (by decide), if_pos rfl] at h
 exact of_decide_eq_true h
theorem node6_ {f1 : ByteArray} {n2 n3 : Nat} (h : nodeOK 6 f1 n2 n3 = true) : f1.size = 0 ∧ n2 = n3 := by
 unfold nodeOK at h
 rw [if_neg (by decide), if_neg (by decide), if_neg (by decide), if_neg (by decide), if_pos rfl] at h
 exact of_decide_eq_true h
theorem nodeOK_kinds {f0 : Int} {f1 : ByteArray} {n2 n3 : Nat} (h : nodeOK f0 f1 n2 n3 = true) (h5 : ¬ f0 = 5) (h6 : ¬ f0 = 6) : f0 = 0 ∨ f0 = 1 ∨ f0 = 2 ∨ f0 = 3 ∨ f0 = 4 := nodeOK_plain h h5 h6
theorem encB_head {v : J} (h : nodeOK v.f0 v.f1 v.f2.length v.f3.length = true) (h5 : ¬ v.f0 = 5) (h6 : ¬ v.f0 = 6) : ∃ c t, encB v = c :: t ∧ Head c := by
 unfold encB
 rcases nodeOK_kinds h h5 h6 with h0 | h0 | h0 | h0 | h0
 ·rw [h0]; exact ⟨110, _, rfl, by unfold Head; decide⟩
 ·rw [h0]; exact ⟨102, _, rfl, by unfold Head; decide⟩
 ·rw [h0]; exact ⟨116, _, rfl, by unfold Head; decide⟩
 ·rw [h0] at h ⊢
  obtain ⟨c, t, e, hc⟩ := litF_head (by rw [(node3_ h).1])
  rw [if_pos rfl]
  exact ⟨c, t, e, (dg_head hc).1⟩
 ·rw [h0, if_neg (by decide), if_pos rfl, quote_eq]
  exact ⟨34, _, rfl, by unfold Head; decide⟩
theorem encJ_head : ∀ (r : Nat) (v : J), OKJ r v → ∃ c t, encJ r v = c :: t ∧ Head c
 | 0, v, h => encB_head h.1 h.2.1 h.2.2
 | r + 1, v, h => by
  rw [encJ]
  by_cases h5 : v.f0 = 5
  ·rw [if_pos h5]; exact ⟨91, _, rfl, by unfold Head; decide⟩
  ·rw [if_neg h5]
   by_cases h6 : v.f0 = 6
   ·rw [if_pos h6]; exact ⟨123, _, rfl, by unfold Head; decide⟩
   ·rw [if_neg h6]; exact encB_head h.1 h5 h6
end Go.Proofs.YtaalajhmfdcalaaDoor.X
namespace Go.Proofs.YtaalajhmfdcalaaDoor.X
open Go.RowKit
structure GL (w : World) : Prop where
 words : GLw w
 tabs : Tabs w
theorem GL_below {w W : World} (h : GL w) (hb : Below w.heap.size w W) : GL W := ⟨h.words.below hb, h.tabs.bel hb⟩
end Go.Proofs.YtaalajhmfdcalaaDoor.X
namespace Go.Proofs.YtaalajhmfdcalaaDoor.X
open Go.RowKit Go.Lib Go.Proofs.YtaalajhmfdcalaaDoorW.PrintWords Go.Proofs.YtaalajhmfdcalaaDoorW.PrintLast Go.Proofs.YtaalajhmfdcalaaDoorW.PrintMore
def jtext_Parse.f (a0 : ByteArray) : Option (Int × ByteArray × List ByteArray × (List (S25)) × Int × Int) :=
 match parseJ a0.data.toList (a0.size + 1) with
 | none => none
 | some (.err e p) => some (0, ⟨#[]⟩, [], [], (e : Int), (p : Int))
 | some (.val j _) => some (j.f0, j.f1, j.f2, j.f3, 0, 0)
theorem jtext_Parse.calls (a0 : ByteArray) (r1 : Int) (r2 : ByteArray) (r3 : List ByteArray) (r4 : List (S25)) (r5 r6 : Int) (w : World) (hG : GL w) (h : jtext_Parse.f a0 = some (r1, r2, r3, r4, r5, r6)) :
  Calls Tryd.prog 11 #[.string a0] w fun e w' => ∃ v2_ v3_ : Value, e = .returned (.tuple #[.agg #[.int .i64 r1, .string r2, v2_, v3_], .int .i64 r5, .int .i64 r6]) ∧ Kd.R Kd.string 9 w' w.heap.size (fun _ => True) v2_ r3 ∧ Kd.R k25 25 w' w.heap.size (fun k_ => some k_ ≠ (v2_ : Value).ownBlock) v3_ r4 ∧ Below w.heap.size w w' := by
 unfold jtext_Parse.f at h
 cases ho : parseJ a0.data.toList (a0.size + 1) with
 | none => rw [ho] at h; cases h
 | some o =>
  rw [ho] at h
  refine (parse_calls a0 _ o w hG.tabs ho).mono ?_
  rintro e w' ⟨he, hb⟩
  cases o with
  | err e1 p =>
   simp only [Option.some.injEq, Prod.mk.injEq] at h
   obtain ⟨rfl, rfl, rfl, rfl, rfl, rfl⟩ := h
   obtain ⟨v2, v3, rfl, h2, h3⟩ := he
   exact ⟨v2, v3, rfl, h2, h3, hb⟩
  | val j q =>
   simp only [Option.some.injEq, Prod.mk.injEq] at h
   obtain ⟨rfl, rfl, rfl, rfl, rfl, rfl⟩ := h
   obtain ⟨v2, v3, rfl, h2, h3⟩ := he
   exact ⟨v2, v3, rfl, h2, h3, hb⟩
def smB : Nat → J → Bool
 | 0, v => decide (v.f1.size ≤ 288230376151711743)
 | r + 1, v => decide (v.f1.size ≤ 288230376151711743) && v.f2.all (fun s => decide (s.size ≤ 288230376151711743)) && v.f3.all (fun y => smB r y)
theorem smB_iff : ∀ (r : Nat) (v : J), smB r v = true ↔ SmJ r v
 | 0, v => by simp [smB, SmJ]
 | r + 1, v => by
  simp only [smB, SmJ, Bool.and_eq_true, decide_eq_true_eq, List.all_eq_true, and_assoc]
  refine and_congr Iff.rfl (and_congr Iff.rfl ⟨fun h y hy => (smB_iff r y).1 (h y hy), fun h y hy => (smB_iff r y).2 (h y hy)⟩)
def jtext_Print.f (a0_0 : Int) (a0_1 : ByteArray) (l0_2 : List ByteArray) (l0_3 : List (S25)) : Option (ByteArray × Int) :=
 if smB 32 ⟨a0_0, a0_1, l0_2, l0_3⟩ = true then some (printB ⟨a0_0, a0_1, l0_2, l0_3⟩, ((printS ⟨a0_0, a0_1, l0_2, l0_3⟩).e : Int)) else none
theorem jtext_Print.calls (a0_0 : Int) (a0_1 : ByteArray) (A0_2 : Option Addr) (c0_2 : Nat) (l0_2 : List ByteArray) (A0_3 : Option Addr) (c0_3 : Nat) (l0_3 : List (S25)) (r1 : ByteArray) (r2 : Int) (w : World) (hr0_2 : Kd.C Kd.string w A0_2 l0_2.length l0_2) (hc0_2 : l0_2.length ≤ c0_2) (hr0_3 : Kd.C k25 w A0_3 l0_3.length l0_3) (hc0_3 : l0_3.length ≤ c0_3) (hG : GL w) (h : jtext_Print.f a0_0 a0_1 l0_2 l0_3 = some (r1, r2)) :
  Calls Tryd.prog 17 #[.agg #[.int .i64 a0_0, .string a0_1, .slice A0_2 l0_2.length c0_2, .slice A0_3 l0_3.length c0_3]] w fun e w' => e = .returned (.tuple #[.string r1, .int .i64 r2]) ∧ Below w.heap.size w w' := by
 unfold jtext_Print.f at h
 split at h
 ·rename_i hs
  simp only [Option.some.injEq, Prod.mk.injEq] at h
  obtain ⟨rfl, rfl⟩ := h
  exact print_calls a0_0 a0_1 l0_2 l0_3 A0_2 A0_3 c0_2 c0_3 w ((smB_iff 32 _).1 hs) hr0_2 hc0_2 hr0_3 hc0_3 hG.words hG.tabs
 ·cases h
end Go.Proofs.YtaalajhmfdcalaaDoor.X
namespace Go.Proofs.YtaalajhmfdcalaaDoor.X
open Go.RowKit Go.Lib Go.Proofs.YtaalajhmfdcalaaDoorW.PrintWords
inductive Bd (B L : Nat) : J → Prop
 | mk (f0 : Int) (f1 : ByteArray) (f2 : List ByteArray) (f3 : List J) : f1.size ≤ B → (∀ s, s ∈ f2 → s.size ≤ B) → f2.length ≤ L → f3.length ≤ L → (∀ y, y ∈ f3 → Bd B L y) → Bd B L ⟨f0, f1, f2, f3⟩
theorem rd_nat (xs : List J) (i : Nat) (h : i < xs.length) : rd_T25 xs (i : Int) = xs[i] := by
 unfold rd_T25
 rw [show ((i : Int)).toNat = i from Int.toNat_natCast i, List.getD_eq_getElem?_getD, List.getElem?_eq_getElem h]
 rfl
theorem wrap_id (x : Int) (h0 : -9223372036854775808 ≤ x) (h1 : x ≤ 9223372036854775807) : wrap64 x = x := by unfold wrap64; omega
theorem ge_succ {K k : Nat} (h : K + 1 ≤ k) : ∃ k', k = k' + 1 ∧ K ≤ k' := ⟨k - 1, by omega, by omega⟩
theorem eta_J (y : J) : (⟨y.f0, y.f1, y.f2, y.f3⟩ : J) = y := by cases y; rfl
theorem smB_of {B L : Nat} (hB : B ≤ 288230376151711743) : ∀ (r : Nat) {v : J}, Bd B L v → smB r v = true
 | 0, v, h => by
  cases h with
  | mk f0 f1 f2 f3 h1 _ _ _ _ => unfold smB; exact decide_eq_true (by show f1.size ≤ _; omega)
 | r + 1, v, h => by
  cases h with
  | mk f0 f1 f2 f3 h1 h2 _ _ h3 =>
   unfold smB
   simp only [Bool.and_eq_true, decide_eq_true_eq, List.all_eq_true]
   exact ⟨⟨by omega, fun s hs => Nat.le_trans (h2 s hs) hB⟩, fun y hy => smB_of hB r (h3 y hy)⟩
end Go.Proofs.YtaalajhmfdcalaaDoor.X
namespace Go.Proofs.YtaalajhmfdcalaaDoor.X
open Go.RowKit Go.Proofs.YtaalajhmfdcalaaDoor.X Go.Proofs.YtaalajhmfdcalaaDoorW.PrintWords Go.Proofs.YtaalajhmfdcalaaDoorW.PrintLast Go.Proofs.YtaalajhmfdcalaaDoorW.PrintMore
attribute [local go_sem] max2_int min2_int max_two min_two max_three min_three max_four min_four   -- for this text's walks alone
set_option linter.unusedVariables false
set_option linter.unusedSimpArgs false
def wicketlaw04_num.f (a0 : Int) : Option (Int) := some a0
set_option maxHeartbeats 8000000 in
set_option maxRecDepth 100000 in
theorem wicketlaw04_num.calls (a0 : Int) (r : Int) (w : World) (h : wicketlaw04_num.f a0 = some r) :
  Calls Tryd.prog 14 #[.int .i64 a0] w fun e w' => e = .returned (.int .i64 r) ∧ Drawn0 w w' := by
 have H : (some a0) = some r := h
 clear h
 obtain rfl := Option.some.inj H
 go_enter Tryd.func14, Tryd.ntmps14
 go_wp2
 go_ret
 exact ⟨by first | rfl | (simp; done) | (simp [*]; done), by repeat (first | exact Drawn0.refl _ | apply Drawn0.step)⟩
def wicketlaw04_live.f  : Option (Bool) := (jtext_Parse.f (⟨#[32, 123, 34, 97, 34, 32, 58, 32, 91, 49, 44, 32, 116, 114, 117, 101, 44, 32, 34, 120, 34, 93, 125, 32]⟩ : ByteArray)).bind fun bt101 => ((jtext_Print.f bt101.1 bt101.2.1 bt101.2.2.1 bt101.2.2.2.1).bind fun bt112 => ((jtext_Parse.f (⟨#[91, 49, 44, 93]⟩ : ByteArray)).bind fun bt114 => ((wicketlaw04_num.f bt101.2.2.2.2.1).bind fun t125 => (if t125 = 0 then ((wicketlaw04_num.f bt112.2).bind fun t126 => (if t126 = 0 then (if bt112.1.toList = ([123, 34, 97, 34, 58, 91, 49, 44, 116, 114, 117, 101, 44, 34, 120, 34, 93, 125] : List UInt8) then ((wicketlaw04_num.f bt114.2.2.2.2.1).bind fun t127 => (if t127 = 40 then (some (bt114.2.2.2.2.2 == 3)) else none)) else none) else none)) else none))))
set_option maxHeartbeats 8000000 in
set_option maxRecDepth 100000 in
theorem wicketlaw04_live.calls  (r : Bool) (w : World) (hG : GL w) (h : wicketlaw04_live.f  = some r) :
  Calls Tryd.prog 13 #[] w fun e w' => e = .returned (.bool r) ∧ Below w.heap.size w w' := by
 have hu25 := Tryd.underlying25
 have HB := am (Below.refl w.heap.size w)
 have HG := am hG
 clear hG
 have H : ((jtext_Parse.f (⟨#[32, 123, 34, 97, 34, 32, 58, 32, 91, 49, 44, 32, 116, 114, 117, 101, 44, 32, 34, 120, 34, 93, 125, 32]⟩ : ByteArray)).bind fun bt101 => ((jtext_Print.f bt101.1 bt101.2.1 bt101.2.2.1 bt101.2.2.2.1).bind fun bt112 => ((jtext_Parse.f (⟨#[91, 49, 44, 93]⟩ : ByteArray)).bind fun bt114 => ((wicketlaw04_num.f bt101.2.2.2.2.1).bind fun t125 => (if t125 = 0 then ((wicketlaw04_num.f bt112.2).bind fun t126 => (if t126 = 0 then (if bt112.1.toList = ([123, 34, 97, 34, 58, 91, 49, 44, 116, 114, 117, 101, 44, 34, 120, 34, 93, 125] : List UInt8) then ((wicketlaw04_num.f bt114.2.2.2.2.1).bind fun t127 => (if t127 = 40 then (some (bt114.2.2.2.2.2 == 3)) else none)) else none) else none)) else none))))) = some r := h
 clear h
 replace H := Option.bind_eq_some_iff.mp H
 obtain ⟨⟨t101, t102, t103, t106, t109, t110⟩, A10, H⟩ := H
 replace H : ((jtext_Print.f t101 t102 t103 t106).bind fun bt112 => ((jtext_Parse.f (⟨#[91, 49, 44, 93]⟩ : ByteArray)).bind fun bt114 => ((wicketlaw04_num.f t109).bind fun t125 => (if t125 = 0 then ((wicketlaw04_num.f bt112.2).bind fun t126 => (if t126 = 0 then (if bt112.1.toList = ([123, 34, 97, 34, 58, 91, 49, 44, 116, 114, 117, 101, 44, 34, 120, 34, 93, 125] : List UInt8) then ((wicketlaw04_num.f bt114.2.2.2.2.1).bind fun t127 => (if t127 = 40 then (some (bt114.2.2.2.2.2 == 3)) else none)) else none) else none)) else none)))) = some r := H
 have A1 := am A10
 clear A10
 replace H := Option.bind_eq_some_iff.mp H
 obtain ⟨⟨t112, t113⟩, A20, H⟩ := H
 replace H : ((jtext_Parse.f (⟨#[91, 49, 44, 93]⟩ : ByteArray)).bind fun bt114 => ((wicketlaw04_num.f t109).bind fun t125 => (if t125 = 0 then ((wicketlaw04_num.f t113).bind fun t126 => (if t126 = 0 then (if t112.toList = ([123, 34, 97, 34, 58, 91, 49, 44, 116, 114, 117, 101, 44, 34, 120, 34, 93, 125] : List UInt8) then ((wicketlaw04_num.f bt114.2.2.2.2.1).bind fun t127 => (if t127 = 40 then (some (bt114.2.2.2.2.2 == 3)) else none)) else none) else none)) else none))) = some r := H
 have A2 := am A20
 clear A20
 replace H := Option.bind_eq_some_iff.mp H
 obtain ⟨⟨t114, t115, t116, t119, t122, t123⟩, A30, H⟩ := H
 replace H : ((wicketlaw04_num.f t109).bind fun t125 => (if t125 = 0 then ((wicketlaw04_num.f t113).bind fun t126 => (if t126 = 0 then (if t112.toList = ([123, 34, 97, 34, 58, 91, 49, 44, 116, 114, 117, 101, 44, 34, 120, 34, 93, 125] : List UInt8) then ((wicketlaw04_num.f t122).bind fun t127 => (if t127 = 40 then (some (t123 == 3)) else none)) else none) else none)) else none)) = some r := H
 have A3 := am A30
 clear A30
 replace H := Option.bind_eq_some_iff.mp H
 obtain ⟨t125, A40, H⟩ := H
 obtain rfl : t109 = t125 := Option.some.inj A40
 replace H : (if t109 = 0 then ((wicketlaw04_num.f t113).bind fun t126 => (if t126 = 0 then (if t112.toList = ([123, 34, 97, 34, 58, 91, 49, 44, 116, 114, 117, 101, 44, 34, 120, 34, 93, 125] : List UInt8) then ((wicketlaw04_num.f t122).bind fun t127 => (if t127 = 40 then (some (t123 == 3)) else none)) else none) else none)) else none) = some r := H
 have A4 := am A40
 clear A40
 by_cases c5 : t109 = 0
 ·rw [if_pos c5] at H
  have c5b0 : (t109 == 0) = true := beq_iff_eq.mpr c5
  have c5b1 : (t109 != 0) = false := bne_eq_false_iff_eq.mpr c5
  clear c5
  replace H := Option.bind_eq_some_iff.mp H
  obtain ⟨t126, A60, H⟩ := H
  obtain rfl : t113 = t126 := Option.some.inj A60
  replace H : (if t113 = 0 then (if t112.toList = ([123, 34, 97, 34, 58, 91, 49, 44, 116, 114, 117, 101, 44, 34, 120, 34, 93, 125] : List UInt8) then ((wicketlaw04_num.f t122).bind fun t127 => (if t127 = 40 then (some (t123 == 3)) else none)) else none) else none) = some r := H
  have A6 := am A60
  clear A60
  by_cases c7 : t113 = 0
  ·rw [if_pos c7] at H
   have c7b0 : (t113 == 0) = true := beq_iff_eq.mpr c7
   have c7b1 : (t113 != 0) = false := bne_eq_false_iff_eq.mpr c7
   clear c7
   by_cases c8 : t112.toList = ([123, 34, 97, 34, 58, 91, 49, 44, 116, 114, 117, 101, 44, 34, 120, 34, 93, 125] : List UInt8)
   ·rw [if_pos c8] at H
    have c8b0 : (t112.toList == ([123, 34, 97, 34, 58, 91, 49, 44, 116, 114, 117, 101, 44, 34, 120, 34, 93, 125] : List UInt8)) = true := beq_iff_eq.mpr c8
    have c8b1 : (t112.toList != ([123, 34, 97, 34, 58, 91, 49, 44, 116, 114, 117, 101, 44, 34, 120, 34, 93, 125] : List UInt8)) = false := bne_eq_false_iff_eq.mpr c8
    clear c8
    replace H := Option.bind_eq_some_iff.mp H
    obtain ⟨t127, A90, H⟩ := H
    obtain rfl : t122 = t127 := Option.some.inj A90
    replace H : (if t122 = 40 then (some (t123 == 3)) else none) = some r := H
    have A9 := am A90
    clear A90
    by_cases c10 : t122 = 40
    ·rw [if_pos c10] at H
     have c10b0 : (t122 == 40) = true := beq_iff_eq.mpr c10
     have c10b1 : (t122 != 40) = false := bne_eq_false_iff_eq.mpr c10
     clear c10
     obtain rfl := Option.some.inj H
     go_enter Tryd.func13, Tryd.ntmps13
     go_wp2_with (first | ((with_reducible refine gate_callee (f := 11) rfl ?_); refine goesL_ (some 10) rfl rfl Tryd.func11 (by kernel_rfl) rfl #[.string (⟨#[32, 123, 34, 97, 34, 32, 58, 32, 91, 49, 44, 32, 116, 114, 117, 101, 44, 32, 34, 120, 34, 93, 125, 32]⟩ : ByteArray)] rfl (by (try simp only [List.map_toArray, List.map_cons, List.map_nil]); first | done | rfl | (simp only [List.length_drop, List.length_take]; rfl)) ?_; (with_reducible refine (jtext_Parse.calls (⟨#[32, 123, 34, 97, 34, 32, 58, 32, 91, 49, 44, 32, 116, 114, 117, 101, 44, 32, 34, 120, 34, 93, 125, 32]⟩ : ByteArray) t101 t102 t103 t106 t109 t110 _ ?side1 A1.out).mono ?_); (case side1 => exact GL_below HG.out (by repeat (first | (with_reducible first | exact HB.out | apply below_alloc | apply pw_below_drewN | apply below_drew1) | exact HB.out))); rintro e w11 ⟨v104, v107, rfl, ho0, ho1, hb⟩; refine ⟨_, rfl, ?_⟩; have n0_ := am (Kd.R_lower ho0 (below_size (by repeat (first | (with_reducible first | exact HB.out | apply below_alloc | apply pw_below_drewN | apply below_drew1) | exact HB.out)))); have n1_ := am (Kd.R_lower ho1 (below_size (by repeat (first | (with_reducible first | exact HB.out | apply below_alloc | apply pw_below_drewN | apply below_drew1) | exact HB.out)))); have n2_ := am (below_step (by repeat (first | (with_reducible first | exact HB.out | apply below_alloc | apply pw_below_drewN | apply below_drew1) | exact HB.out)) hb); clear HB; have HO105 := n0_; have HO108 := n1_; have HB := n2_; clear n0_ n1_ n2_; (try clear hb); (try clear hb2); (try clear hk); (try clear hi); (try clear ho0); (try clear ho1)) | ((with_reducible refine gate_dst (N := 1) rfl ?_); refine box_event ?hg (N := 1) ?hd (cs := #[.int .i64 0, .string (⟨#[]⟩ : ByteArray), .slice none 0 0, .slice none 0 0]) (t := 25) ?hr ?_; (case hd => rfl); (case hg => rfl); (case hr => first | (go_simp; done) | (go_simp; rfl)); intro gb111 hg w12 hbox hb; have n0_ := am (Kd.R_below (by (with_reducible repeat (first | apply Kd.R_alloc | apply Kd.R_drewN | apply Kd.R_drew)); exact HO105.out) hb); have n1_ := am (Kd.R_below (Kd.R_elderB (by (with_reducible repeat (first | apply Kd.R_alloc | apply Kd.R_drewN | apply Kd.R_drew)); exact HO108.out) gb111 (Nat.le_of_eq hg.symm)) hb); have n2_ := am (below_step (by repeat (first | (with_reducible first | exact HB.out | apply below_alloc | apply pw_below_drewN | apply below_drew1) | exact HB.out)) hb); have n3_ := am (hbox); have n4_ := am ((by rw [hg]; exact (below_size (by repeat (first | (with_reducible first | exact HB.out | apply below_alloc | apply pw_below_drewN | apply below_drew1) | exact HB.out))) : w.heap.size ≤ gb111)); have n5_ := am ((by rw [hg]; exact (below_size (by repeat (first | (with_reducible first | exact HB.out | apply below_alloc | apply pw_below_drewN | apply below_drew1) | exact HB.out))) : w.heap.size ≤ gb111)); clear HO105; clear HO108; clear HB; have HO105 := n0_; have HO108 := n1_; have HB := n2_; have BK111 := n3_; have GW111 := n4_; have GE111 := n5_; clear n0_ n1_ n2_ n3_ n4_ n5_; clear hb hbox hg; have hcz13_0 : w12.cell? ⟨gb111, 0, none⟩ = some (.int .i64 0) := (blk_cell BK111.out 0).trans rfl; have hcz13_1 : w12.cell? ⟨gb111, 1, none⟩ = some (.string (⟨#[]⟩ : ByteArray)) := (blk_cell BK111.out 1).trans rfl; have hcz13_2 : w12.cell? ⟨gb111, 2, none⟩ = some (.slice none 0 0) := (blk_cell BK111.out 2).trans rfl; have hcz13_3 : w12.cell? ⟨gb111, 3, none⟩ = some (.slice none 0 0) := (blk_cell BK111.out 3).trans rfl; have hfz13_0 := blk_frozen BK111.out 0; have hfz13_1 := blk_frozen BK111.out 1; have hfz13_2 := blk_frozen BK111.out 2; have hfz13_3 := blk_frozen BK111.out 3; obtain ⟨Ao14, co14, eo14⟩ := Kd.R_slice HO105.out; subst eo14; obtain ⟨Ao15, co15, eo15⟩ := Kd.R_slice HO108.out; subst eo15) | ((with_reducible refine gate_callee (f := 17) rfl ?_); refine goesL_ (some 16) rfl rfl Tryd.func17 (by kernel_rfl) rfl #[.agg #[.int .i64 t101, .string t102, .slice Ao14 t103.length co14, .slice Ao15 t106.length co15]] rfl (by (try simp only [List.map_toArray, List.map_cons, List.map_nil]); first | done | rfl | (simp only [List.length_drop, List.length_take]; rfl)) ?_; (with_reducible refine (jtext_Print.calls t101 t102 _ _ t103 _ _ t106 t112 t113 _ ?side1 ?side2 ?side3 ?side4 ?side5 A2.out).mono ?_); (case side1 => refine (Kd.R_reads' (e := 9) (base := w.heap.size) (ok := fun k_ => True) (n := t103.length) (c := co14) ?_).2.2; exact (by (with_reducible repeat (first | apply Kd.R_alloc | apply Kd.R_drewN | apply Kd.R_drew)); exact (Kd.R_mono (Kd.R_far (p := ⟨gb111, 3, none⟩) (Kd.R_far (p := ⟨gb111, 2, none⟩) (Kd.R_far (p := ⟨gb111, 1, none⟩) (Kd.R_far (p := ⟨gb111, 0, none⟩) (Kd.R_types HO105.out BK111.out (by decide)) (fun _ hk => hk.2) (.int .i64 t101)) (fun _ hk => hk.2) (.string t102)) (fun _ hk => hk.2) (.slice Ao14 t103.length co14)) (fun _ hk => hk.2) (.slice Ao15 t106.length co15)) (fun _ h_ => h_.1)))); (case side2 => exact (Kd.R_reads' HO105.out).2.1); (case side3 => refine (Kd.R_reads' (e := 25) (base := w.heap.size) (ok := fun k_ => (some k_ ≠ (.slice Ao14 t103.length co14 : Value).ownBlock ∧ k_ ≠ gb111)) (n := t106.length) (c := co15) ?_).2.2; exact (by (with_reducible repeat (first | apply Kd.R_alloc | apply Kd.R_drewN | apply Kd.R_drew)); exact (Kd.R_mono (Kd.R_far (p := ⟨gb111, 3, none⟩) (Kd.R_far (p := ⟨gb111, 2, none⟩) (Kd.R_far (p := ⟨gb111, 1, none⟩) (Kd.R_far (p := ⟨gb111, 0, none⟩) (Kd.R_mono HO108.out (fun k_ hk => (⟨hk, hk.2⟩ : _ ∧ k_ ≠ gb111))) (fun _ hk => hk.2) (.int .i64 t101)) (fun _ hk => hk.2) (.string t102)) (fun _ hk => hk.2) (.slice Ao14 t103.length co14)) (fun _ hk => hk.2) (.slice Ao15 t106.length co15)) (fun _ h_ => h_.1)))); (case side4 => exact (Kd.R_reads' HO108.out).2.1); (case side5 => exact GL_below HG.out (by repeat (first | (with_reducible first | exact HB.out | apply below_alloc | apply pw_below_drewN | apply below_drew1 | refine below_set ?_ GE111.out) | exact HB.out))); rintro e w16 ⟨rfl, hb⟩; refine ⟨_, rfl, ?_⟩; have n0_ := am (Kd.R_below (by (with_reducible repeat (first | apply Kd.R_alloc | apply Kd.R_drewN | apply Kd.R_drew)); exact (Kd.R_mono (Kd.R_far (p := ⟨gb111, 3, none⟩) (Kd.R_far (p := ⟨gb111, 2, none⟩) (Kd.R_far (p := ⟨gb111, 1, none⟩) (Kd.R_far (p := ⟨gb111, 0, none⟩) (Kd.R_types HO105.out BK111.out (by decide)) (fun _ hk => hk.2) (.int .i64 t101)) (fun _ hk => hk.2) (.string t102)) (fun _ hk => hk.2) (.slice Ao14 t103.length co14)) (fun _ hk => hk.2) (.slice Ao15 t106.length co15)) (fun _ h_ => h_.1))) hb); have n1_ := am (Kd.R_below (by (with_reducible repeat (first | apply Kd.R_alloc | apply Kd.R_drewN | apply Kd.R_drew)); exact (Kd.R_mono (Kd.R_far (p := ⟨gb111, 3, none⟩) (Kd.R_far (p := ⟨gb111, 2, none⟩) (Kd.R_far (p := ⟨gb111, 1, none⟩) (Kd.R_far (p := ⟨gb111, 0, none⟩) (Kd.R_mono HO108.out (fun k_ hk => (⟨hk, hk.2⟩ : _ ∧ k_ ≠ gb111))) (fun _ hk => hk.2) (.int .i64 t101)) (fun _ hk => hk.2) (.string t102)) (fun _ hk => hk.2) (.slice Ao14 t103.length co14)) (fun _ hk => hk.2) (.slice Ao15 t106.length co15)) (fun _ h_ => h_.1))) hb); have n2_ := am (blk_below (g := gb111) (o := .cells #[.int .i64 t101, .string t102, .slice Ao14 t103.length co14, .slice Ao15 t106.length co15] 25 (0, 0)) (by (with_reducible repeat (first | refine blk_drewN ?_ _ | refine blk_drew ?_ | refine blk_alloc ?_ _)); refine blk_put (cs := #[.int .i64 t101, .string t102, .slice Ao14 t103.length co14, .slice none 0 0]) ?_ 3 _ rfl; (with_reducible repeat (first | refine blk_drewN ?_ _ | refine blk_drew ?_ | refine blk_alloc ?_ _)); refine blk_put (cs := #[.int .i64 t101, .string t102, .slice none 0 0, .slice none 0 0]) ?_ 2 _ rfl; (with_reducible repeat (first | refine blk_drewN ?_ _ | refine blk_drew ?_ | refine blk_alloc ?_ _)); refine blk_put (cs := #[.int .i64 t101, .string (⟨#[]⟩ : ByteArray), .slice none 0 0, .slice none 0 0]) ?_ 1 _ rfl; (with_reducible repeat (first | refine blk_drewN ?_ _ | refine blk_drew ?_ | refine blk_alloc ?_ _)); refine blk_put (cs := #[.int .i64 0, .string (⟨#[]⟩ : ByteArray), .slice none 0 0, .slice none 0 0]) ?_ 0 _ rfl; (with_reducible repeat (first | refine blk_drewN ?_ _ | refine blk_drew ?_ | refine blk_alloc ?_ _)); exact BK111.out) hb); have n3_ := am (below_step (by repeat (first | (with_reducible first | exact HB.out | apply below_alloc | apply pw_below_drewN | apply below_drew1 | refine below_set ?_ GE111.out) | exact HB.out)) hb); clear HO105; clear HO108; clear BK111; clear HB; have HO105 := n0_; have HO108 := n1_; have BK111 := n2_; have HB := n3_; clear n0_ n1_ n2_ n3_; (try clear hb); (try clear hb2); (try clear hk); (try clear hi)) | ((with_reducible refine gate_callee (f := 11) rfl ?_); refine goesL_ (some 20) rfl rfl Tryd.func11 (by kernel_rfl) rfl #[.string (⟨#[91, 49, 44, 93]⟩ : ByteArray)] rfl (by (try simp only [List.map_toArray, List.map_cons, List.map_nil]); first | done | rfl | (simp only [List.length_drop, List.length_take]; rfl)) ?_; (with_reducible refine (jtext_Parse.calls (⟨#[91, 49, 44, 93]⟩ : ByteArray) t114 t115 t116 t119 t122 t123 _ ?side1 A3.out).mono ?_); (case side1 => exact GL_below HG.out (by repeat (first | (with_reducible first | exact HB.out | apply below_alloc | apply pw_below_drewN | apply below_drew1 | refine below_set ?_ GE111.out) | exact HB.out))); rintro e w17 ⟨v117, v120, rfl, ho0, ho1, hb⟩; refine ⟨_, rfl, ?_⟩; have n0_ := am (Kd.R_elder' (by (with_reducible repeat (first | apply Kd.R_alloc | apply Kd.R_drewN | apply Kd.R_drew)); exact HO105.out) (Kd.R_base ho0) hb); have n1_ := am (Kd.R_mono (Kd.R_told (Kd.R_told (Kd.R_old (by (with_reducible repeat (first | apply Kd.R_alloc | apply Kd.R_drewN | apply Kd.R_drew)); exact HO108.out) hb) (Kd.R_base ho0)) (Kd.R_base ho1)) (fun _ h_ => h_.1)); have n2_ := am (Kd.R_lower (Kd.R_new' ho0 (Kd.R_lt (by (with_reducible repeat (first | apply Kd.R_alloc | apply Kd.R_drewN | apply Kd.R_drew)); exact HO105.out))) (below_size (by repeat (first | (with_reducible first | exact HB.out | apply below_alloc | apply pw_below_drewN | apply below_drew1 | refine below_set ?_ GE111.out) | exact HB.out)))); have n3_ := am (Kd.R_lower (Kd.R_newB (Kd.R_new' (Kd.R_new' ho1 (Kd.R_lt (by (with_reducible repeat (first | apply Kd.R_alloc | apply Kd.R_drewN | apply Kd.R_drew)); exact HO105.out))) (Kd.R_lt (by (with_reducible repeat (first | apply Kd.R_alloc | apply Kd.R_drewN | apply Kd.R_drew)); exact HO108.out))) (g := gb111) (o := .cells #[.int .i64 t101, .string t102, .slice Ao14 t103.length co14, .slice Ao15 t106.length co15] 25 (0, 0)) (by (with_reducible repeat (first | refine blk_drewN ?_ _ | refine blk_drew ?_ | refine blk_alloc ?_ _)); exact BK111.out)) (below_size (by repeat (first | (with_reducible first | exact HB.out | apply below_alloc | apply pw_below_drewN | apply below_drew1 | refine below_set ?_ GE111.out) | exact HB.out)))); have n4_ := am (blk_below (g := gb111) (o := .cells #[.int .i64 t101, .string t102, .slice Ao14 t103.length co14, .slice Ao15 t106.length co15] 25 (0, 0)) (by (with_reducible repeat (first | refine blk_drewN ?_ _ | refine blk_drew ?_ | refine blk_alloc ?_ _)); exact BK111.out) hb); have n5_ := am (below_step (by repeat (first | (with_reducible first | exact HB.out | apply below_alloc | apply pw_below_drewN | apply below_drew1 | refine below_set ?_ GE111.out) | exact HB.out)) hb); clear HO105; clear HO108; clear BK111; clear HB; have HO105 := n0_; have HO108 := n1_; have HO118 := n2_; have HO121 := n3_; have BK111 := n4_; have HB := n5_; clear n0_ n1_ n2_ n3_ n4_ n5_; (try clear hb); (try clear hb2); (try clear hk); (try clear hi); (try clear ho0); (try clear ho1)) | ((with_reducible refine gate_dst (N := 6) rfl ?_); refine box_event ?hg (N := 6) ?hd (cs := #[.int .i64 0, .string (⟨#[]⟩ : ByteArray), .slice none 0 0, .slice none 0 0]) (t := 25) ?hr ?_; (case hd => rfl); (case hg => rfl); (case hr => first | (go_simp; done) | (go_simp; rfl)); intro gb124 hg w18 hbox hb; have n0_ := am (Kd.R_below (by (with_reducible repeat (first | apply Kd.R_alloc | apply Kd.R_drewN | apply Kd.R_drew)); exact HO105.out) hb); have n1_ := am (Kd.R_below (Kd.R_elderB (by (with_reducible repeat (first | apply Kd.R_alloc | apply Kd.R_drewN | apply Kd.R_drew)); exact HO108.out) gb124 (Nat.le_of_eq hg.symm)) hb); have n2_ := am (Kd.R_below (by (with_reducible repeat (first | apply Kd.R_alloc | apply Kd.R_drewN | apply Kd.R_drew)); exact HO118.out) hb); have n3_ := am (Kd.R_below (Kd.R_elderB (by (with_reducible repeat (first | apply Kd.R_alloc | apply Kd.R_drewN | apply Kd.R_drew)); exact HO121.out) gb124 (Nat.le_of_eq hg.symm)) hb); have n4_ := am (blk_below (g := gb111) (o := .cells #[.int .i64 t101, .string t102, .slice Ao14 t103.length co14, .slice Ao15 t106.length co15] 25 (0, 0)) (by (with_reducible repeat (first | refine blk_drewN ?_ _ | refine blk_drew ?_ | refine blk_alloc ?_ _)); exact BK111.out) hb); have n5_ := am (below_step (by repeat (first | (with_reducible first | exact HB.out | apply below_alloc | apply pw_below_drewN | apply below_drew1 | refine below_set ?_ GE111.out) | exact HB.out)) hb); have n6_ := am (hbox); have n7_ := am ((by rw [hg]; exact (below_size (by repeat (first | (with_reducible first | exact HB.out | apply below_alloc | apply pw_below_drewN | apply below_drew1 | refine below_set ?_ GE111.out) | exact HB.out))) : w.heap.size ≤ gb124)); have n8_ := am ((by rw [hg]; exact (below_size (by repeat (first | (with_reducible first | exact HB.out | apply below_alloc | apply pw_below_drewN | apply below_drew1 | refine below_set ?_ GE111.out) | exact HB.out))) : w.heap.size ≤ gb124)); have n9_ := am ((by rw [hg]; exact Nat.ne_of_lt (blk_lt (g := gb111) (o := .cells #[.int .i64 t101, .string t102, .slice Ao14 t103.length co14, .slice Ao15 t106.length co15] 25 (0, 0)) (by (with_reducible repeat (first | refine blk_drewN ?_ _ | refine blk_drew ?_ | refine blk_alloc ?_ _)); exact BK111.out)) : gb111 ≠ gb124)); have n10_ := am ((by rw [hg]; exact Nat.ne_of_gt (blk_lt (g := gb111) (o := .cells #[.int .i64 t101, .string t102, .slice Ao14 t103.length co14, .slice Ao15 t106.length co15] 25 (0, 0)) (by (with_reducible repeat (first | refine blk_drewN ?_ _ | refine blk_drew ?_ | refine blk_alloc ?_ _)); exact BK111.out)) : gb124 ≠ gb111)); clear HO105; clear HO108; clear HO118; clear HO121; clear BK111; clear HB; have HO105 := n0_; have HO108 := n1_; have HO118 := n2_; have HO121 := n3_; have BK111 := n4_; have HB := n5_; have BK124 := n6_; have GW124 := n7_; have GE124 := n8_; have NB111_124 := n9_; have NB124_111 := n10_; clear n0_ n1_ n2_ n3_ n4_ n5_ n6_ n7_ n8_ n9_ n10_; clear hb hbox hg; have hnb19 := NB124_111.out; have hnc19 := NB111_124.out; have hcz20_0 : w18.cell? ⟨gb124, 0, none⟩ = some (.int .i64 0) := (blk_cell BK124.out 0).trans rfl; have hcz20_1 : w18.cell? ⟨gb124, 1, none⟩ = some (.string (⟨#[]⟩ : ByteArray)) := (blk_cell BK124.out 1).trans rfl; have hcz20_2 : w18.cell? ⟨gb124, 2, none⟩ = some (.slice none 0 0) := (blk_cell BK124.out 2).trans rfl; have hcz20_3 : w18.cell? ⟨gb124, 3, none⟩ = some (.slice none 0 0) := (blk_cell BK124.out 3).trans rfl; have hfz20_0 := blk_frozen BK124.out 0; have hfz20_1 := blk_frozen BK124.out 1; have hfz20_2 := blk_frozen BK124.out 2; have hfz20_3 := blk_frozen BK124.out 3; obtain ⟨Ao21, co21, eo21⟩ := Kd.R_slice HO118.out; subst eo21; obtain ⟨Ao22, co22, eo22⟩ := Kd.R_slice HO121.out; subst eo22) | ((with_reducible refine gate_callee (f := 14) rfl ?_); refine goesL_ (some 25) rfl rfl Tryd.func14 (by kernel_rfl) rfl #[.int .i64 t109] rfl (by (try simp only [List.map_toArray, List.map_cons, List.map_nil]); first | done | rfl | (simp only [List.length_drop, List.length_take]; rfl)) ?_; (with_reducible refine (wicketlaw04_num.calls t109 t109 _ A4.out).mono ?_); rintro e w' ⟨rfl, ⟨nd, rfl⟩⟩; refine ⟨_, rfl, ?_⟩) | (go_at_call 14; (with_reducible refine (wicketlaw04_num.calls t113 t113 _ A6.out).mono ?_); rintro e w' ⟨rfl, ⟨nd, rfl⟩⟩) | (go_at_call 14; (with_reducible refine (wicketlaw04_num.calls t122 t122 _ A9.out).mono ?_); rintro e w' ⟨rfl, ⟨nd, rfl⟩⟩))
     go_ret
     exact ⟨by first | rfl | (simp [errW_none, errW_some] <;> rfl) | (simp [*, errW_none, errW_some] <;> rfl), by repeat (first | (with_reducible first | exact HB.out | apply below_alloc | apply pw_below_drewN | apply below_drew1 | refine below_set ?_ GE111.out | refine below_set ?_ GE124.out) | exact HB.out)⟩
    ·rw [if_neg c10] at H
     have c10b0 : (t122 == 40) = false := beq_eq_false_iff_ne.mpr c10
     have c10b1 : (t122 != 40) = true := bne_iff_ne.mpr c10
     cases H
   ·rw [if_neg c8] at H
    have c8b0 : (t112.toList == ([123, 34, 97, 34, 58, 91, 49, 44, 116, 114, 117, 101, 44, 34, 120, 34, 93, 125] : List UInt8)) = false := beq_eq_false_iff_ne.mpr c8
    have c8b1 : (t112.toList != ([123, 34, 97, 34, 58, 91, 49, 44, 116, 114, 117, 101, 44, 34, 120, 34, 93, 125] : List UInt8)) = true := bne_iff_ne.mpr c8
    cases H
  ·rw [if_neg c7] at H
   have c7b0 : (t113 == 0) = false := beq_eq_false_iff_ne.mpr c7
   have c7b1 : (t113 != 0) = true := bne_iff_ne.mpr c7
   cases H
 ·rw [if_neg c5] at H
  have c5b0 : (t109 == 0) = false := beq_eq_false_iff_ne.mpr c5
  have c5b1 : (t109 != 0) = true := bne_iff_ne.mpr c5
  cases H
end Go.Proofs.YtaalajhmfdcalaaDoor.X
namespace Go.Proofs.YtaalajhmfdcalaaDoor.X
open Go.RowKit
theorem live_true : wicketlaw04_live.f = some true := by kernel_rfl
end Go.Proofs.YtaalajhmfdcalaaDoor.X
namespace Go.Proofs.YtaalajhmfdcalaaDoor.X
open Go.RowKit Go.Lib Go.Proofs.YtaalajhmfdcalaaDoorW.PrintWords
theorem printS_fit (v : J) (h : (printS v).e = 0) : OKJ 32 v ∧ (printS v).out = encJ 32 v := by
 obtain ⟨_, h2, h3⟩ := valW_ok false 32 v ⟨[], 0⟩ h
 exact ⟨h2, by unfold printS; rw [h3]; rfl⟩
theorem putF_bnd {st : St} (s : List UInt8) (h : st.out.length ≤ 16384) : (putF false st s).out.length ≤ 16384 :=
 (Fit.put (free := false) (n := 0) s ⟨(fun hh => by cases hh), fun _ => h⟩ (Nat.le_refl _)).bnd rfl
theorem putsF_bnd : ∀ (l : List (List UInt8)) {st : St}, st.out.length ≤ 16384 → (putsF false st l).out.length ≤ 16384
 | [], st, h => h
 | a :: l, st, h => by rw [putsF_cons]; exact putsF_bnd l (putF_bnd a h)
theorem failF_bnd {st : St} (e : Nat) (h : st.out.length ≤ 16384) : (failF st e).out.length ≤ 16384 := by
 unfold failF
 split
 ·exact h
 ·exact h
theorem comma_bnd {st : St} (i : Nat) (h : st.out.length ≤ 16384) : (if i = 0 then st else putF false st [44]).out.length ≤ 16384 := by
 split
 ·exact h
 ·exact putF_bnd _ h
theorem itemsW_bnd {one : J → St → St} (ho : ∀ y st, st.out.length ≤ 16384 → (one y st).out.length ≤ 16384) : ∀ (l : List J) (i : Nat) (st : St), st.out.length ≤ 16384 → (itemsW false one i l st).out.length ≤ 16384
 | [], i, st, h => h
 | y :: l, i, st, h => by rw [itemsW]; exact itemsW_bnd ho l _ _ (ho _ _ (comma_bnd i h))
theorem membersW_bnd {one : J → St → St} (ho : ∀ y st, st.out.length ≤ 16384 → (one y st).out.length ≤ 16384) : ∀ (ns : List ByteArray) (ys : List J) (seen : List ByteArray) (i : Nat) (st : St), st.out.length ≤ 16384 → (membersW false one seen i ns ys st).out.length ≤ 16384
 | [], ys, seen, i, st, h => by simpa [membersW] using h
 | _ :: _, [], seen, i, st, h => by simpa [membersW] using h
 | nm :: ns, y :: ys, seen, i, st, h => by
  have hc := comma_bnd i h
  rw [membersW]
  try simp only
  generalize (if i = 0 then st else putF false st [44]) = st5 at hc ⊢
  split
  ·exact hc
  ·split
   ·exact failF_bnd _ hc
   ·split
    ·exact failF_bnd _ hc
    ·exact membersW_bnd ho ns ys _ _ _ (ho _ _ (putF_bnd _ (putsF_bnd _ hc)))
theorem valW_bnd (canon : Bool) : ∀ (r : Nat) (v : J) (st : St), st.out.length ≤ 16384 → (valW false canon r v st).out.length ≤ 16384
 | 0, v, st, h => by
  rw [valW]
  repeat' split
  all_goals first | exact h | exact putF_bnd _ h | exact putsF_bnd _ h
 | r + 1, v, st, h => by
  have ho := valW_bnd canon r
  rw [valW]
  repeat' split
  all_goals first | exact h | exact putF_bnd _ h | exact putsF_bnd _ h | exact putF_bnd _ (itemsW_bnd ho _ _ _ (putF_bnd _ h)) | exact putF_bnd _ (membersW_bnd ho _ _ _ _ _ (putF_bnd _ h))
theorem printS_len (v : J) (h : (printS v).e = 0) : (encJ 32 v).length ≤ 16384 := by
 rw [← (printS_fit v h).2]
 exact valW_bnd false 32 v ⟨[], 0⟩ (by decide)
theorem print_f_ok {B L : Nat} (hB : B ≤ 288230376151711743) {v : J} (h : Bd B L v) : jtext_Print.f v.f0 v.f1 v.f2 v.f3 = some (printB v, ((printS v).e : Int)) := by
 unfold jtext_Print.f
 rw [eta_J, if_pos (smB_of hB 32 h)]
end Go.Proofs.YtaalajhmfdcalaaDoor.X
namespace Go.Proofs.YtaalajhmfdcalaaDoor.X
open Go.RowKit Go.Lib Go.Proofs.YtaalajhmfdcalaaDoorW.PrintWords Go.Proofs.YtaalajhmfdcalaaDoorW.PrintLast Go.Proofs.YtaalajhmfdcalaaDoorW.PrintMore
set_option maxRecDepth 1000000 in
set_option maxHeartbeats 4000000 in
theorem less_calls (Bo Ba blk n c c2 c3 n3 : Nat) (ad : Addr) (A3 : Option Addr) (ns : List ByteArray) (G : Nat → Nat) (W : World) (i j : Nat) (hi : i < n) (hj : j < n) (hl : ns.length = n) (hG : ∀ k, k < n → G k < n)
  (h0 : W.cell? ⟨Bo, 0, none⟩ = some (.slice (some ad) n c2)) (h1 : W.cell? ⟨Ba, 0, none⟩ = some (.slice (some ⟨blk, 0, none⟩) n c)) (h2 : ∀ k, k < n → W.cell? ⟨blk, 0 + k, none⟩ = some (.int .i64 (G k : Nat))) (h3 : ∀ k, k < n → W.cell? (ad.add k) = some (.string (nmAt ns k))) :
  Calls Tryd.prog 78 #[.int .i64 i, .int .i64 j, .pointer (some ⟨Bo, 0, none⟩), .pointer (some ⟨Ba, 0, none⟩)] W fun e w' => e = .returned (.bool (Op.bytesLess (nmAt ns (G i)).toList (nmAt ns (G j)).toList)) ∧ ∃ q, w' = W.drewN q := by
 have gi := hG i hi
 have gj := hG j hj
 have ci : W.cell? ⟨blk, i, none⟩ = some (.int .i64 (G i : Nat)) := by have := h2 i hi; rwa [Nat.zero_add] at this
 have cj : W.cell? ⟨blk, j, none⟩ = some (.int .i64 (G j : Nat)) := by have := h2 j hj; rwa [Nat.zero_add] at this
 have ni := h3 (G i) gi
 have nj := h3 (G j) gj
 have p1 : (0 ≤ (i : Int)) = True := eq_true (by omega)
 have p2 : ((i : Int) < (n : Int)) = True := eq_true (by omega)
 have p3 : (0 ≤ (j : Int)) = True := eq_true (by omega)
 have p4 : ((j : Int) < (n : Int)) = True := eq_true (by omega)
 have p5 : (0 ≤ ((G i : Nat) : Int)) = True := eq_true (by omega)
 have p6 : (((G i : Nat) : Int) < (n : Int)) = True := eq_true (by omega)
 have p7 : (0 ≤ ((G j : Nat) : Int)) = True := eq_true (by omega)
 have p8 : (((G j : Nat) : Int) < (n : Int)) = True := eq_true (by omega)
 clear h2 h3 hG hi hj
 generalize G i = a at *
 generalize G j = b at *
 generalize nmAt ns a = na at *
 generalize nmAt ns b = nb at *
 go_enter Tryd.func78, Tryd.ntmps78
 go_wp2
 go_quiet (fail)
 go_wp2
 go_ret
 exact ⟨rfl, nq, rfl⟩
end Go.Proofs.YtaalajhmfdcalaaDoor.X
namespace Go.Proofs.YtaalajhmfdcalaaDoor.X
open Go.RowKit Go.Lib Go.Shelf Go.Proofs.YtaalajhmfdcalaaDoorW.PrintWords Go.Proofs.YtaalajhmfdcalaaDoorW.PrintLast Go.Proofs.YtaalajhmfdcalaaDoorW.PrintMore
noncomputable def siT : TypeInfo := (Tryd.prog.info? 107).get (by kernel_rfl)
noncomputable def siE : TypeInfo := (Tryd.prog.info? 3).get (by kernel_rfl)
theorem siK (n : Nat) (h2 : 2 ≤ n) : Lib.swapperK n siE 2 = 5 := by
 have a : siE.hasPointers = false := by kernel_rfl
 have b : siE.bytes = 8 := by kernel_rfl
 have c : (n == 0) = false := by simp; omega
 have d : (n == 1) = false := by simp; omega
 simp [Lib.swapperK, a, b, c, d]
theorem bytesLess_ltStr : ∀ x y : List UInt8, Op.bytesLess x y = Go.Sort.ltStr x y
 | _, [] => by simp [Op.bytesLess, Go.Sort.ltStr]
 | [], _ :: _ => by simp [Op.bytesLess, Go.Sort.ltStr]
 | a :: x, b :: y => by
  have ih := bytesLess_ltStr x y
  unfold Go.Sort.ltStr at ih ⊢
  rw [Op.bytesLess, ih, Bool.eq_iff_iff]
  simp [List.cons_lt_cons_iff]
theorem ext_self {α : Type} (A : Array α) (m : Nat) (h : A.size = m) : A.extract 0 m = A := by
 subst h; simp
def ltN (ns : List ByteArray) (a b : Nat) : Bool := Op.bytesLess (nmAt ns a).toList (nmAt ns b).toList
theorem swo_fin (ns : List ByteArray) (n : Nat) : Go.Sort.SWO (fun a b : Fin n => ltN ns a.val b.val) := by
 have key : ∀ a b, ltN ns a b = Go.Sort.ltStr (nmAt ns a).toList (nmAt ns b).toList := fun a b => bytesLess_ltStr _ _
 refine ⟨fun x => ?_, fun x y z h1 h2 => ?_, fun x y z h1 h2 => ?_⟩
 ·simp only [key]; exact Go.Sort.swo_ltStr.irrefl _
 ·simp only [key] at *; exact Go.Sort.swo_ltStr.trans _ _ _ h1 h2
 ·simp only [key] at *; exact Go.Sort.swo_ltStr.ntrans _ _ _ h1 h2
structure SortEnds (blk n : Nat) (ns : List ByteArray) (w w' : World) (l : List Nat) : Prop where
 perm : l.Perm (List.range n)
 ord : ∀ i j, i < j → j < n → ltN ns (l.getD j 0) (l.getD i 0) = false
 cells : ∀ k, k < n → w'.cell? ⟨blk, k, none⟩ = some (.int .i64 ((l.getD k 0 : Nat) : Int))
 row : ∃ C, w'.heap[blk]? = some (.cells C 3 (0, 0))
 keep : KeepBut w w' blk none
 os : w'.os = w.os
 tape : w'.tape = w.tape
 output : w'.output = w.output
theorem range_getD (n k : Nat) (h : k < n) : (List.range n).getD k 0 = k := by
 rw [List.getD_eq_getElem?_getD, List.getElem?_range h]; rfl
set_option maxHeartbeats 2000000 in
theorem sort_calls (Bo Ba blk n c2 c3 : Nat) (ad : Addr) (A2 A3 : Option Addr) (n3 : Nat) (ns : List ByteArray) (w : World) (hn : ns.length = n) (hsz : n ≤ 1000000) (hA : 0 < n → A2 = some ad)
  (ho : w.heap[Bo]? = some (.cells #[.slice A2 n c2, .slice A3 n3 c3] 84 (0, 0))) (ha : w.heap[Ba]? = some (.cells #[.slice (some ⟨blk, 0, none⟩) n n] 107 (0, 0)))
  (hb : w.heap[blk]? = some (.cells ((List.range n).map fun k : Nat => Value.int .i64 (k : Int)).toArray 3 (0, 0))) (hob : Bo ≠ blk) (hab : Ba ≠ blk)
  (hnm : ∀ k, k < n → w.cell? (ad.add k) = some (.string (nmAt ns k))) (had : 0 < n → ad.block ≠ blk) :
  Calls Tryd.prog 77 #[.iface 107 (.slice (some ⟨blk, 0, none⟩) n n), .func (.func 78) #[] #[.pointer (some ⟨Bo, 0, none⟩), .pointer (some ⟨Ba, 0, none⟩)]] w fun e w' => e = .returned (.tuple #[]) ∧ ∃ l, SortEnds blk n ns w w' l := by
 have hblk := lt_of_block hb
 by_cases h2 : 2 ≤ n
 ·haveI : Inhabited (Fin n) := ⟨⟨0, by omega⟩⟩
  obtain rfl := hA (by omega)
  have had' := had (by omega)
  have hd : (Array.ofFn (fun i : Fin n => i)).size = n := by simp
  have hget : ∀ k (hk : k < n), (Array.ofFn (fun i : Fin n => i))[k]! = ⟨k, hk⟩ := fun k hk => by
   rw [getElem!_pos _ k (by simpa using hk)]; simp
  have hH : Go.Sort.Holds (fun x : Fin n => Value.int .i64 (x.val : Int)) w blk 0 (Array.ofFn (fun i : Fin n => i)) := by
   intro j hj
   have hj' : j < n := by simpa using hj
   rw [hget j hj', Nat.zero_add]
   refine ⟨(blk_cell hb j).trans ?_, blk_frozen hb j⟩
   simp [hj']
  have hless : LessReads Tryd.prog 78 #[.pointer (some ⟨Bo, 0, none⟩), .pointer (some ⟨Ba, 0, none⟩)] (fun x : Fin n => Value.int .i64 (x.val : Int)) (fun a b : Fin n => ltN ns a.val b.val) blk 0 (Array.ofFn (fun i : Fin n => i)).size w := by
   intro m os dk hs i j hi hj
   rw [hd] at hi hj hs
   have e : sortWorld (fun x : Fin n => Value.int .i64 (x.val : Int)) w blk 0 m dk os = Go.Sort.putRow (fun x : Fin n => Value.int .i64 (x.val : Int)) (Go.Sort.grow (Go.Sort.ahead w m) os) blk 0 dk := by
    unfold sortWorld; rw [Go.Sort.putRow_grow _ (Go.Sort.ahead w m) _ blk 0 _ hblk]
   have other : ∀ a : Addr, a.block < w.heap.size → a.block ≠ blk → (sortWorld (fun x : Fin n => Value.int .i64 (x.val : Int)) w blk 0 m dk os).cell? a = w.cell? a := fun a h1 h3 => by
    rw [e, Go.Sort.cell?_putRow_other _ _ blk 0 dk _ (Or.inl h3), Go.Sort.cell?_grow _ _ _ (by exact h1)]
    rfl
   have hHg : Go.Sort.Holds (fun x : Fin n => Value.int .i64 (x.val : Int)) (Go.Sort.grow (Go.Sort.ahead w m) os) blk 0 (Array.ofFn (fun i : Fin n => i)) := Go.Sort.holds_grow _ _ _ blk 0 _ hblk (Go.Sort.holds_ahead _ _ _ _ _ _ hH)
   have key := less_calls Bo Ba blk n n c2 c3 n3 ad A3 ns (fun k => (dk[k]!).val) (sortWorld (fun x : Fin n => Value.int .i64 (x.val : Int)) w blk 0 m dk os) i j hi hj hn (fun k hk => (dk[k]!).isLt) ?_ ?_ (fun k hk => ?_) (fun k hk => ?_)
   ·exact key
   ·rw [other _ (lt_of_block ho) hob]; exact (blk_cell ho 0).trans rfl
   ·rw [other _ (lt_of_block ha) hab]; exact (blk_cell ha 0).trans rfl
   ·rw [e]; exact Go.Sort.cell?_putRow _ _ blk 0 _ dk hHg (by rw [hd]; exact hs) k (by omega)
   ·have h4 := hnm k hk
    have h5 := World.block_lt_of_cell? w _ h4
    rw [add_block] at h5
    rw [other _ (by rw [add_block]; exact h5) (by rw [add_block]; exact had')]
    exact h4
  have hS := Any.sort_Slice_sorted Tryd.sl6 107 3 siT siE (by kernel_rfl) (by kernel_rfl) (by kernel_rfl) (by kernel_rfl) 2 (fun _ => by kernel_rfl) (by kernel_rfl) (fun _ => by kernel_rfl) (fun x : Fin n => Value.int .i64 (x.val : Int)) (fun _ => rfl) _ (swo_fin ns n) 78 _
   (enters_of Tryd.func78 (by kernel_rfl) rfl) blk 0 n (Array.ofFn (fun i : Fin n => i)) (by rw [hd]; exact h2) (by rw [hd]; omega) 101 (by rw [hd, siK _ h2]; kernel_rfl) true
   (fun args W => run_callFunc_extern Tryd.func101 (by kernel_rfl) (by kernel_rfl) (by kernel_rfl) (e := Extern.ReflectliteSwapper.swap true) (by kernel_rfl) args W) w hless hH hblk
  rw [hd] at hS
  refine Calls.mono hS ?_
  rintro e w' ⟨rfl, d', m, os, hP, hSo, rfl⟩
  obtain ⟨hp1, _, hp3⟩ := hP
  rw [hd] at hp1
  have hl : d'.toList.length = n := by simpa using hp1
  have hgd : ∀ k, k < n → (d'.toList.map Fin.val).getD k 0 = (d'[k]!).val := fun k hk => by
   rw [List.getD_eq_getElem?_getD, List.getElem?_map, Array.getElem?_toList, Array.getElem?_eq_getElem (by omega), getElem!_pos d' k (by omega)]
   rfl
  have eW : Go.Sort.grow (Go.Sort.putRow (fun x : Fin n => Value.int .i64 (x.val : Int)) (Go.Sort.ahead w m) blk 0 d') os = sortWorld (fun x : Fin n => Value.int .i64 (x.val : Int)) w blk 0 m d' os := rfl
  refine ⟨rfl, d'.toList.map Fin.val, ⟨?_, fun i j hij hj => ?_, fun k hk => ?_, ?_, ⟨?_, fun i hi hne _ => ?_⟩, rfl, rfl, rfl⟩⟩
  ·have h3 : d'.toList.Perm (Array.ofFn (fun i : Fin n => i)).toList := by
    have e1 : d'.extract 0 n = d' := ext_self _ _ hp1
    have e2 : (Array.ofFn (fun i : Fin n => i)).extract 0 n = Array.ofFn (fun i : Fin n => i) := ext_self _ _ hd
    rw [e1, e2] at hp3
    exact hp3
   have h4 := h3.map Fin.val
   refine h4.trans (List.Perm.of_eq ?_)
   apply List.ext_getElem
   ·simp
   ·intro i h1 h2
    simp
  ·rw [hgd j hj, hgd i (by omega)]
   exact hSo i j (Nat.zero_le _) hij hj
  ·rw [hgd k hk, eW]
   have e : sortWorld (fun x : Fin n => Value.int .i64 (x.val : Int)) w blk 0 m d' os = Go.Sort.putRow (fun x : Fin n => Value.int .i64 (x.val : Int)) (Go.Sort.grow (Go.Sort.ahead w m) os) blk 0 d' := by
    unfold sortWorld; rw [Go.Sort.putRow_grow _ (Go.Sort.ahead w m) _ blk 0 _ hblk]
   rw [e]
   have := Go.Sort.cell?_putRow (fun x : Fin n => Value.int .i64 (x.val : Int)) (Go.Sort.grow (Go.Sort.ahead w m) os) blk 0 _ d' (Go.Sort.holds_grow _ _ _ blk 0 _ hblk (Go.Sort.holds_ahead _ _ _ _ _ _ hH)) (by rw [hd]; exact hp1) k (by omega)
   rw [Nat.zero_add] at this
   exact this
  ·rw [Go.Sort.heap_grow_old _ _ (by simpa [Go.Sort.putRow, Go.Sort.mapBlock] using hblk)]
   refine ⟨_, (show _ = (w.heap[blk]?).map (Go.Sort.onCells (Go.Sort.putCells (fun x : Fin n => Value.int .i64 (x.val : Int)) 0 d')) from ?_).trans (by rw [hb]; rfl)⟩
   simp [Go.Sort.putRow, Go.Sort.mapBlock, Go.Sort.ahead, Array.getElem?_modify]
  ·simp [Go.Sort.grow, Go.Sort.putRow, Go.Sort.mapBlock]
  ·rw [Go.Sort.heap_grow_old _ _ (by simpa [Go.Sort.putRow, Go.Sort.mapBlock] using hi)]
   simp [Go.Sort.putRow, Go.Sort.mapBlock, Array.getElem?_modify, Ne.symm hne]
 ·have hS := Any.sort_Slice_tiny Tryd.sl6 107 3 siT siE (by kernel_rfl) (by kernel_rfl) (by kernel_rfl) (by kernel_rfl) 2 (fun _ => by kernel_rfl) (some ⟨blk, 0, none⟩) n n (by omega) (if n = 0 then 97 else 98)
   (by
    rcases (by omega : n = 0 ∨ n = 1) with h | h
    ·subst h; rw [if_pos rfl]; kernel_rfl
    ·subst h; rw [if_neg (by decide)]; kernel_rfl) (.func 78) #[] #[.pointer (some ⟨Bo, 0, none⟩), .pointer (some ⟨Ba, 0, none⟩)] w
  refine Calls.mono hS ?_
  rintro e w' ⟨rfl, os, rfl⟩
  refine ⟨rfl, List.range n, ⟨.refl _, fun i j hij hj => by omega, fun k hk => ?_, ⟨_, (Go.Sort.heap_grow_old w os hblk).trans hb⟩, ⟨by simp [Go.Sort.grow], fun i hi _ _ => Go.Sort.heap_grow_old w os hi⟩, rfl, rfl, rfl⟩⟩
  rw [Go.Sort.cell?_grow _ _ _ hblk, range_getD n k hk, blk_cell hb k]
  simp [hk]
end Go.Proofs.YtaalajhmfdcalaaDoor.X
namespace Go.Proofs.YtaalajhmfdcalaaDoor.X
open Go.RowKit Go.Lib Go.Proofs.YtaalajhmfdcalaaDoorW.PrintWords Go.Proofs.YtaalajhmfdcalaaDoorW.PrintLast Go.Proofs.YtaalajhmfdcalaaDoorW.PrintMore
theorem strict_unique {α : Type} (lt : α → α → Prop) (asymm : ∀ a b, lt a b → ¬ lt b a) : ∀ l1 l2 : List α, l1.Perm l2 → l1.Pairwise lt → l2.Pairwise lt → l1 = l2
 | [], l2, h, _, _ => (List.nil_perm.1 h).symm ▸ rfl
 | a :: l1, [], h, _, _ => absurd h.length_eq (by simp)
 | a :: l1, b :: l2, h, h1, h2 => by
  have ha : a ∈ b :: l2 := h.subset (List.mem_cons_self ..)
  have hb : b ∈ a :: l1 := h.symm.subset (List.mem_cons_self ..)
  rw [List.pairwise_cons] at h1 h2
  rcases List.mem_cons.1 ha with e | ha
  ·subst e
   rw [strict_unique lt asymm l1 l2 (List.Perm.cons_inv h) h1.2 h2.2]
  ·rcases List.mem_cons.1 hb with e | hb
   ·subst e
    rw [strict_unique lt asymm l1 l2 (List.Perm.cons_inv h) h1.2 h2.2]
   ·exact absurd (h1.1 b hb) (asymm _ _ (h2.1 a ha))
theorem list_eq {a b : ByteArray} (h : a.toList = b.toList) : a = b := by
 rw [toList_data, toList_data] at h
 obtain ⟨⟨a⟩⟩ := a
 obtain ⟨⟨b⟩⟩ := b
 exact congrArg (fun l : List UInt8 => (⟨⟨l⟩⟩ : ByteArray)) h
def leP (a b : ByteArray × J) : Prop := Op.bytesLess b.1.toList a.1.toList = false
def ltP (a b : ByteArray × J) : Prop := Op.bytesLess a.1.toList b.1.toList = true
theorem ltP_asymm (a b : ByteArray × J) (h : ltP a b) : ¬ ltP b a := by
 unfold ltP at *
 simp only [bytesLess_ltStr] at *
 have := Go.Sort.swo_ltStr.irrefl a.1.toList
 intro h2
 rw [Go.Sort.swo_ltStr.trans _ _ _ h h2] at this
 cases this
theorem leP_of_ltP {a b : ByteArray × J} (h : ltP a b) : leP a b := by
 have := ltP_asymm a b h
 unfold ltP at this
 unfold leP
 cases h2 : Op.bytesLess b.1.toList a.1.toList with
 | false => rfl
 | true => exact absurd h2 this
theorem ltP_of {a b : ByteArray × J} (h : leP a b) (hne : a.1 ≠ b.1) : ltP a b := by
 unfold leP at h
 unfold ltP
 rw [bytesLess_ltStr] at *
 simp only [Go.Sort.ltStr, decide_eq_false_iff_not, decide_eq_true_eq, List.not_lt] at *
 rcases Classical.em (a.1.toList < b.1.toList) with h1 | h1
 ·exact h1
 ·rw [List.not_lt] at h1
  exact absurd (list_eq (List.le_antisymm h h1)) hne
theorem insF_sorted (x : ByteArray × J) : ∀ l, l.Pairwise leP → (insF x l).Pairwise leP
 | [], _ => by unfold insF; exact List.pairwise_singleton _ _
 | y :: l, h => by
  rw [List.pairwise_cons] at h
  unfold insF
  split
  ·rename_i hy
   rw [List.pairwise_cons]
   refine ⟨fun z hz => ?_, insF_sorted x l h.2⟩
   rcases List.mem_cons.1 ((insF_perm x l).subset hz) with e | hz
   ·subst e; exact leP_of_ltP hy
   ·exact h.1 z hz
  ·rename_i hy
   have hxy : leP x y := by
    unfold leP
    cases h2 : Op.bytesLess y.1.toList x.1.toList with
    | false => rfl
    | true => exact absurd h2 hy
   rw [List.pairwise_cons, List.pairwise_cons]
   refine ⟨fun z hz => ?_, h⟩
   rcases List.mem_cons.1 hz with e | hz
   ·subst e; exact hxy
   ·have h3 := h.1 z hz
    unfold leP at *
    simp only [bytesLess_ltStr] at *
    exact Go.Sort.swo_ltStr.ntrans _ _ _ h3 hxy
theorem sortF_sorted' : ∀ (l a : List (ByteArray × J)), a.Pairwise leP → (l.foldl (fun a x => insF x a) a).Pairwise leP
 | [], _, h => h
 | x :: l, a, h => sortF_sorted' l _ (insF_sorted x a h)
theorem sortF_sorted (l : List (ByteArray × J)) : (sortF l).Pairwise leP := sortF_sorted' l [] .nil
theorem strict_of {l : List (ByteArray × J)} (h : l.Pairwise leP) (hn : (l.map Prod.fst).Nodup) : l.Pairwise ltP := by
 have h2 : l.Pairwise (fun a b => a.1 ≠ b.1) := List.pairwise_map.1 hn
 exact List.Pairwise.imp (fun ⟨h3, h4⟩ => ltP_of h3 h4) (List.pairwise_and_iff.2 ⟨h, h2⟩)
theorem range_pairs {ns : List ByteArray} {ys : List J} (h : ns.length = ys.length) : (List.range ns.length).map (fun k : Nat => (nmAt ns k, rd_T25 ys (k : Int))) = ns.zip ys := by
 apply List.ext_getElem
 ·simp [h]
 ·intro i h1 h2
  have hi : i < ns.length := by simpa using h1
  rw [List.getElem_map, List.getElem_range, List.getElem_zip, nmAt_eq ns i hi]
  unfold rd_T25
  rw [show ((i : Int)).toNat = i from Int.toNat_natCast i, List.getD_eq_getElem?_getD, List.getElem?_eq_getElem (by omega)]
  rfl
theorem sorted_lists {ns : List ByteArray} {ys : List J} {l : List Nat} (h : ns.length = ys.length) (hP : l.Perm (List.range ns.length)) (hO : ∀ i j, i < j → j < ns.length → ltN ns (l.getD j 0) (l.getD i 0) = false) :
  ((l.map fun k : Nat => nmAt ns k).zip (l.map fun k : Nat => rd_T25 ys (k : Int))).Perm (ns.zip ys) ∧ (ns.Nodup → (l.map fun k : Nat => nmAt ns k) = namesOf true ns ys ∧ (l.map fun k : Nat => rd_T25 ys (k : Int)) = itemsOf true ns ys) := by
 have e : (l.map fun k : Nat => nmAt ns k).zip (l.map fun k : Nat => rd_T25 ys (k : Int)) = l.map (fun k : Nat => (nmAt ns k, rd_T25 ys (k : Int))) := List.zip_map'
 have hp : (l.map (fun k : Nat => (nmAt ns k, rd_T25 ys (k : Int)))).Perm (ns.zip ys) := by
  rw [← range_pairs h]; exact hP.map _
 have hlen : l.length = ns.length := by rw [hP.length_eq, List.length_range]
 rw [e]
 refine ⟨hp, fun hn => ?_⟩
 have hs : (l.map (fun k : Nat => (nmAt ns k, rd_T25 ys (k : Int)))).Pairwise leP := by
  rw [List.pairwise_map, List.pairwise_iff_getElem]
  intro i j hi hj hij
  have := hO i j hij (by omega)
  have gi : l.getD i 0 = l[i] := by rw [List.getD_eq_getElem?_getD, List.getElem?_eq_getElem hi]; rfl
  have gj : l.getD j 0 = l[j] := by rw [List.getD_eq_getElem?_getD, List.getElem?_eq_getElem hj]; rfl
  rw [gi, gj] at this
  exact this
 have hz : ((ns.zip ys).map Prod.fst).Nodup := by rw [map_fst_zip h]; exact hn
 have eq := strict_unique ltP ltP_asymm _ _ (hp.trans (sortF_perm (ns.zip ys)).symm) (strict_of hs (((hp.map Prod.fst).nodup_iff).2 hz)) (strict_of (sortF_sorted _) ((((sortF_perm (ns.zip ys)).map Prod.fst).nodup_iff).2 hz))
 constructor
 ·have := congrArg (List.map Prod.fst) eq
  rw [List.map_map] at this
  exact this
 ·have := congrArg (List.map Prod.snd) eq
  rw [List.map_map] at this
  exact this
end Go.Proofs.YtaalajhmfdcalaaDoor.X
namespace Go.Proofs.YtaalajhmfdcalaaDoor.X
open Go.RowKit Go.Lib Go.Proofs.YtaalajhmfdcalaaDoorW.PrintWords
def sJ : Nat → J → J
 | 0, v => v
 | r + 1, v =>
  if v.f0 = 5 then ⟨v.f0, v.f1, v.f2, v.f3.map (sJ r)⟩
  else if v.f0 = 6 ∧ v.f2.length = v.f3.length then ⟨v.f0, v.f1, namesOf true v.f2 v.f3, (itemsOf true v.f2 v.f3).map (sJ r)⟩
  else v
theorem itemsW_map {free : Bool} {one one' : J → St → St} {f : J → J} (h : ∀ y st, one y st = one' (f y) st) : ∀ (l : List J) (i : Nat) (st : St), itemsW free one i l st = itemsW free one' i (l.map f) st
 | [], _, _ => by simp [itemsW]
 | y :: l, i, st => by
  rw [List.map_cons, itemsW, itemsW, h]
  exact itemsW_map h l _ _
theorem membersW_map {free : Bool} {one one' : J → St → St} {f : J → J} (h : ∀ y st, one y st = one' (f y) st) : ∀ (ns : List ByteArray) (ys : List J) (seen : List ByteArray) (i : Nat) (st : St), membersW free one seen i ns ys st = membersW free one' seen i ns (ys.map f) st
 | [], ys, _, _, _ => by cases ys <;> simp [membersW]
 | _ :: _, [], _, _, _ => by simp [membersW]
 | nm :: ns, y :: ys, seen, i, st => by
  rw [List.map_cons, membersW, membersW, h, membersW_map h ns ys]
theorem names_len {ns : List ByteArray} {ys : List J} (h : ns.length = ys.length) : (namesOf true ns ys).length = ns.length := by
 have := (namesOf_perm h).length_eq
 exact this
theorem items_len {ns : List ByteArray} {ys : List J} (h : ns.length = ys.length) : (itemsOf true ns ys).length = ys.length := by
 rw [← namesOf_len true h, names_len h, h]
theorem sJ_5 {r : Nat} {v : J} (h5 : v.f0 = 5) : sJ (r + 1) v = ⟨v.f0, v.f1, v.f2, v.f3.map (sJ r)⟩ := by rw [sJ, if_pos h5]
theorem sJ_6 {r : Nat} {v : J} (h6 : v.f0 = 6) (hl : v.f2.length = v.f3.length) : sJ (r + 1) v = ⟨v.f0, v.f1, namesOf true v.f2 v.f3, (itemsOf true v.f2 v.f3).map (sJ r)⟩ := by
 rw [sJ, if_neg (by rw [h6]; decide), if_pos ⟨h6, hl⟩]
theorem sJ_x {r : Nat} {v : J} (h5 : ¬ v.f0 = 5) (h6 : ¬ (v.f0 = 6 ∧ v.f2.length = v.f3.length)) : sJ (r + 1) v = v := by rw [sJ, if_neg h5, if_neg h6]
theorem canon_sort (free : Bool) : ∀ (r : Nat) (v : J) (st : St), valW free true r v st = valW free false r (sJ r v) st
 | 0, v, st => by unfold valW; rfl
 | r + 1, v, st => by
  have IH := canon_sort free r
  by_cases h5 : v.f0 = 5
  ·rw [sJ_5 h5, valW, valW]
   simp only [if_pos h5, List.length_map]
   rw [itemsW_map IH]
  ·by_cases h6 : v.f0 = 6 ∧ v.f2.length = v.f3.length
   ·rw [sJ_6 h6.1 h6.2, valW, valW]
    simp only [List.length_map, names_len h6.2, items_len h6.2, if_neg h5, if_pos h6.1]
    rw [membersW_map IH]
    rfl
   ·rw [sJ_x h5 h6, valW, valW]
    by_cases h7 : v.f0 = 6
    ·have hn : nodeOK v.f0 v.f1 v.f2.length v.f3.length = false := by
      have hl : ¬ v.f2.length = v.f3.length := fun hl => h6 ⟨h7, hl⟩
      rw [h7]; unfold nodeOK; simp [hl]
     simp only [hn, if_true]
    ·simp only [if_neg h5, if_neg h7]
def Rm (free : Bool) (n : Nat) : Prop := free = false → n ≤ 16384
theorem Rm.le {free : Bool} {n m : Nat} (h : Rm free m) (hm : n ≤ m) : Rm free n := fun hf => Nat.le_trans hm (h hf)
theorem putF_yes {free : Bool} {st : St} {s : List UInt8} (he : st.e = 0) (h : Rm free (st.out.length + s.length)) : putF free st s = ⟨st.out ++ s, 0⟩ := by
 unfold putF
 rw [if_neg (by omega), if_neg (fun hh => by have := h hh.1; omega)]
theorem putsF_yes {free : Bool} : ∀ (l : List (List UInt8)) {st : St}, st.e = 0 → Rm free (st.out.length + l.flatten.length) → putsF free st l = ⟨st.out ++ l.flatten, 0⟩
 | [], st, he, _ => by cases st; simp only at he; subst he; simp [putsF]
 | a :: l, st, he, h => by
  rw [List.flatten_cons, List.length_append] at h
  rw [putsF_cons, putF_yes he (h.le (by omega)), putsF_yes l rfl (h.le (by show (st.out ++ a).length + _ ≤ _; rw [List.length_append]; omega)), List.flatten_cons]
  show (⟨st.out ++ a ++ l.flatten, 0⟩ : St) = _
  rw [List.append_assoc]
def Yes (free : Bool) (one : J → St → St) (P : J → Prop) (enc : J → List UInt8) : Prop := ∀ y st, P y → st.e = 0 → Rm free (st.out.length + (enc y).length) → one y st = ⟨st.out ++ enc y, 0⟩
theorem comma_yes {free : Bool} {i : Nat} {st : St} (he : st.e = 0) (h : Rm free (st.out.length + (if i = 0 then [] else [44] : List UInt8).length)) : (if i = 0 then st else putF free st [44]) = ⟨st.out ++ (if i = 0 then [] else [44]), 0⟩ := by
 by_cases hi : i = 0
 ·rw [if_pos hi, if_pos hi, List.append_nil]; cases st; simp only at he; subst he; rfl
 ·rw [if_neg hi, if_neg hi]; rw [if_neg hi] at h; exact putF_yes he h
theorem itemsW_yes {free : Bool} {one : J → St → St} {P : J → Prop} {enc : J → List UInt8} (ho : Yes free one P enc) : ∀ (l : List J) (i : Nat) (st : St), (∀ y, y ∈ l → P y) → st.e = 0 → Rm free (st.out.length + (encI enc i l).length) → itemsW free one i l st = ⟨st.out ++ encI enc i l, 0⟩
 | [], i, st, _, he, _ => by rw [itemsW, encI, List.append_nil]; cases st; simp only at he; subst he; rfl
 | y :: l, i, st, hp, he, h => by
  rw [encI, List.length_append, List.length_append] at h
  rw [itemsW, comma_yes he (h.le (by omega)), ho y _ (hp y (List.mem_cons_self ..)) rfl (h.le (by show (st.out ++ _).length + _ ≤ _; rw [List.length_append]; omega)), itemsW_yes ho l (i + 1) _ (fun z hz => hp z (List.mem_cons_of_mem _ hz)) rfl (h.le (by show (st.out ++ _ ++ _).length + _ ≤ _; rw [List.length_append, List.length_append]; omega)), encI]
  simp [List.append_assoc]
theorem membersW_yes {free : Bool} {one : J → St → St} {P : J → Prop} {enc : J → List UInt8} (ho : Yes free one P enc) : ∀ (ns : List ByteArray) (ys : List J) (seen : List ByteArray) (i : Nat) (st : St), ns.length = ys.length → (∀ y, y ∈ ys → P y) → (∀ s, s ∈ ns → validD s.data.toList = true) → ((seen ++ ns).map (fun b => b.data.toList)).Nodup → st.e = 0 → Rm free (st.out.length + (encM enc i ns ys).length) →
  membersW free one seen i ns ys st = ⟨st.out ++ encM enc i ns ys, 0⟩
 | [], [], seen, i, st, _, _, _, _, he, _ => by simp only [membersW, encM, List.append_nil]; cases st; simp only at he; subst he; rfl
 | [], _ :: _, _, _, _, hl, _, _, _, _, _ => by simp at hl
 | _ :: _, [], _, _, _, hl, _, _, _, _, _ => by simp at hl
 | nm :: ns, y :: ys, seen, i, st, hl, hp, hv, hn, he, h => by
  rw [encM] at h
  simp only [List.length_append, List.length_cons] at h
  have h1 := comma_yes (free := free) (i := i) he (h.le (by omega))
  have h3 : ¬ nm.data.toList ∈ seen.map (fun b => b.data.toList) := by
   rw [List.map_append, List.nodup_append] at hn
   intro hm
   exact hn.2.2 _ hm _ (by simp) rfl
  rw [membersW, h1, if_neg (by simp), if_neg (by rw [hv nm (List.mem_cons_self ..)]; simp), if_neg h3]
  have e2 : putsF free (⟨st.out ++ (if i = 0 then [] else [44]), 0⟩ : St) (quoteB nm) = ⟨st.out ++ (if i = 0 then [] else [44]) ++ qB nm, 0⟩ := putsF_yes _ rfl (h.le (by show (st.out ++ _).length + (qB nm).length ≤ _; rw [List.length_append]; omega))
  rw [e2, putF_yes (by rfl) (h.le (by simp only [List.length_append, List.length_cons, List.length_nil]; omega)), ho y _ (hp y (List.mem_cons_self ..)) rfl (h.le (by simp only [List.length_append, List.length_cons, List.length_nil]; omega)),
   membersW_yes ho ns ys (seen ++ [nm]) (i + 1) _ (by simpa using hl) (fun z hz => hp z (List.mem_cons_of_mem _ hz)) (fun z hz => hv z (List.mem_cons_of_mem _ hz)) (by simpa using hn) rfl (h.le (by simp only [List.length_append, List.length_cons, List.length_nil]; omega)), encM]
  simp [List.append_assoc]
theorem base_yes {free : Bool} {v : J} {st : St} (he : st.e = 0) (h : Rm free (st.out.length + (encB v).length)) : (if v.f0 = 3 then putF free st v.f1.data.toList else if v.f0 = 4 then putsF free st (quoteB v.f1) else putF free st (wordB v.f0.toNat).data.toList) = ⟨st.out ++ encB v, 0⟩ := by
 unfold encB at h ⊢
 by_cases h3 : v.f0 = 3
 ·simp only [if_pos h3] at h ⊢; exact putF_yes he h
 ·simp only [if_neg h3] at h ⊢
  by_cases h4 : v.f0 = 4
  ·simp only [if_pos h4] at h ⊢; exact putsF_yes _ he h
  ·simp only [if_neg h4] at h ⊢; exact putF_yes he h
theorem valW_yes (free : Bool) : ∀ (r : Nat), Yes free (valW free false r) (OKJ r) (encJ r)
 | 0, v, st, hok, he, h => by
  obtain ⟨hn, h5, h6⟩ := hok
  rw [encJ] at h ⊢
  rw [valW, if_neg (by omega), if_neg (by rintro (h | h); exact h5 h; exact h6 h), if_neg (by rw [hn]; simp)]
  exact base_yes he h
 | r + 1, v, st, hok, he, h => by
  obtain ⟨hn, hi, hm⟩ := hok
  have IH := valW_yes free r
  rw [encJ] at h ⊢
  rw [valW, if_neg (by omega), if_neg (by rw [hn]; simp)]
  by_cases h5 : v.f0 = 5
  ·simp only [if_pos h5] at h ⊢
   simp only [List.length_cons, List.length_append, List.length_nil] at h
   rw [putF_yes he (h.le (by simp only [List.length_cons, List.length_nil]; omega)), itemsW_yes IH _ _ _ (hi (.inl h5)) rfl (h.le (by simp only [List.length_append, List.length_cons, List.length_nil]; omega)), putF_yes rfl (h.le (by simp only [List.length_append, List.length_cons, List.length_nil]; omega))]
   simp
  ·by_cases h6 : v.f0 = 6
   ·have hl : v.f2.length = v.f3.length := by
     rw [h6] at hn; unfold nodeOK at hn; simp at hn; exact hn.2
    simp only [if_neg h5, if_pos h6] at h ⊢
    simp only [List.length_cons, List.length_append, List.length_nil] at h
    rw [putF_yes he (h.le (by simp only [List.length_cons, List.length_nil]; omega))]
    show putF free (membersW free (valW free false r) [] 0 v.f2 v.f3 _) _ = _
    rw [membersW_yes IH _ _ _ _ _ hl (hi (.inr h6)) (hm h6).1 (by simpa using (hm h6).2) rfl (h.le (by simp only [List.length_append, List.length_cons, List.length_nil]; omega)), putF_yes rfl (h.le (by simp only [List.length_append, List.length_cons, List.length_nil]; omega))]
    simp
   ·simp only [if_neg h5, if_neg h6] at h ⊢
    exact base_yes he h
theorem sum_perm {l l' : List Nat} (h : l.Perm l') : l.sum = l'.sum := by
 induction h with
 | nil => rfl
 | cons x _ ih => simp only [List.sum_cons, ih]
 | swap x y l => simp only [List.sum_cons]; omega
 | trans _ _ h1 h2 => exact h1.trans h2
def pm (f : J → J) (p : ByteArray × J) : ByteArray × J := (p.1, f p.2)
theorem nodeOK_6 {f1 : ByteArray} {n2 n3 m2 m3 : Nat} (h : nodeOK 6 f1 n2 n3 = true) (hm : m2 = m3) : nodeOK 6 f1 m2 m3 = true := by
 unfold nodeOK at h ⊢
 simp at h ⊢
 exact ⟨h.1, hm⟩
theorem items_perm {ns : List ByteArray} {ys : List J} (h : ns.length = ys.length) : (itemsOf true ns ys).Perm ys := by
 have := (sortF_perm (ns.zip ys)).map Prod.snd
 rw [map_snd_zip h] at this
 exact this
theorem OKJ_sJ : ∀ (r : Nat) (v : J), OKJ r v → OKJ r (sJ r v)
 | 0, v, h => h
 | r + 1, v, h => by
  have IH := OKJ_sJ r
  obtain ⟨hn, hi, hm⟩ := h
  by_cases h5 : v.f0 = 5
  ·rw [sJ_5 h5]
   refine ⟨?_, fun _ y hy => ?_, fun h6 => absurd (h5.symm.trans h6) (by decide)⟩
   ·show nodeOK v.f0 v.f1 v.f2.length (v.f3.map (sJ r)).length = true
    rw [List.length_map]; exact hn
   ·obtain ⟨x, hx, rfl⟩ := List.mem_map.1 hy
    exact IH x (hi (.inl h5) x hx)
  ·by_cases h6 : v.f0 = 6
   ·have hl : v.f2.length = v.f3.length := by rw [h6] at hn; exact (node6_ hn).2
    obtain ⟨g1, g2⟩ := hm h6
    rw [sJ_6 h6 hl]
    refine ⟨?_, fun _ y hy => ?_, fun _ => ⟨fun s hs => g1 s ((namesOf_perm hl).subset hs), ?_⟩⟩
    ·show nodeOK v.f0 v.f1 (namesOf true v.f2 v.f3).length ((itemsOf true v.f2 v.f3).map (sJ r)).length = true
     rw [h6] at hn ⊢
     exact nodeOK_6 hn (by rw [List.length_map, names_len hl, items_len hl, hl])
    ·obtain ⟨x, hx, rfl⟩ := List.mem_map.1 hy
     exact IH x (hi (.inr h6) x ((items_perm hl).subset hx))
    ·exact ((namesOf_perm hl).map _).nodup_iff.2 g2
   ·rw [sJ_x h5 (fun h => h6 h.1)]
    exact ⟨hn, hi, hm⟩
theorem encI_map (enc : J → List UInt8) (f : J → J) : ∀ (l : List J) (i : Nat), encI enc i (l.map f) = encI (fun y => enc (f y)) i l
 | [], _ => rfl
 | y :: l, i => by rw [List.map_cons, encI, encI, encI_map enc f l]
theorem encM_map (enc : J → List UInt8) (f : J → J) : ∀ (ns : List ByteArray) (ys : List J) (i : Nat), encM enc i ns (ys.map f) = encM (fun y => enc (f y)) i ns ys
 | [], ys, i => by cases ys <;> simp [encM]
 | _ :: _, [], i => by simp [encM]
 | nm :: ns, y :: ys, i => by rw [List.map_cons, encM, encM, encM_map enc f ns ys]
theorem encI_len {e1 e2 : J → List UInt8} (h : ∀ y, (e1 y).length = (e2 y).length) : ∀ (l : List J) (i : Nat), (encI e1 i l).length = (encI e2 i l).length
 | [], _ => rfl
 | y :: l, i => by rw [encI, encI]; simp only [List.length_append, h, encI_len h l]
theorem encM_len {e1 e2 : J → List UInt8} (h : ∀ y, (e1 y).length = (e2 y).length) : ∀ (ns : List ByteArray) (ys : List J) (i : Nat), (encM e1 i ns ys).length = (encM e2 i ns ys).length
 | [], ys, i => by cases ys <;> simp [encM]
 | _ :: _, [], i => by simp [encM]
 | nm :: ns, y :: ys, i => by rw [encM, encM]; simp only [List.length_append, List.length_cons, h, encM_len h ns ys]
def lenP (enc : J → List UInt8) (l : List (ByteArray × J)) : Nat := (l.map (fun p => (qB p.1).length + 2 + (enc p.2).length)).sum
theorem encM_lenP (enc : J → List UInt8) : ∀ (ns : List ByteArray) (ys : List J) (i : Nat), (encM enc i ns ys).length + (if i = 0 ∧ ns.zip ys ≠ [] then 1 else 0) = lenP enc (ns.zip ys)
 | [], ys, i => by cases ys <;> simp [encM, lenP]
 | _ :: _, [], i => by simp [encM, lenP]
 | nm :: ns, y :: ys, i => by
  have := encM_lenP enc ns ys (i + 1)
  rw [if_neg (by omega)] at this
  rw [encM, List.zip_cons_cons]
  unfold lenP at this ⊢
  rw [List.map_cons, List.sum_cons, ← this]
  by_cases hi : i = 0
  ·simp [hi]; omega
  ·simp [hi]; omega
theorem encM_perm (enc : J → List UInt8) {ns ns' : List ByteArray} {ys ys' : List J} (h : (ns'.zip ys').Perm (ns.zip ys)) : (encM enc 0 ns' ys').length = (encM enc 0 ns ys).length := by
 have h1 := encM_lenP enc ns ys 0
 have h2 := encM_lenP enc ns' ys' 0
 have h3 : lenP enc (ns'.zip ys') = lenP enc (ns.zip ys) := sum_perm (h.map _)
 have h4 : (ns'.zip ys' ≠ []) ↔ (ns.zip ys ≠ []) := by
  have := h.length_eq
  rw [← List.length_pos_iff, ← List.length_pos_iff, this]
 have h5 : (if (0 : Nat) = 0 ∧ ns'.zip ys' ≠ [] then 1 else 0 : Nat) = (if (0 : Nat) = 0 ∧ ns.zip ys ≠ [] then 1 else 0) := by simp only [h4]
 rw [h5] at h2
 omega
theorem zip_names {ns : List ByteArray} {ys : List J} : (namesOf true ns ys).zip (itemsOf true ns ys) = sortF (ns.zip ys) := by
 show ((sortF (ns.zip ys)).map Prod.fst).zip ((sortF (ns.zip ys)).map Prod.snd) = _
 rw [List.zip_map']
 simp
theorem encJ_sJ_len : ∀ (r : Nat) (v : J), (encJ r (sJ r v)).length = (encJ r v).length
 | 0, v => rfl
 | r + 1, v => by
  have IH := encJ_sJ_len r
  by_cases h5 : v.f0 = 5
  ·rw [sJ_5 h5, encJ, encJ]
   simp only [if_pos h5, List.length_cons, List.length_append]
   rw [encI_map, encI_len IH]
  ·by_cases h6 : v.f0 = 6 ∧ v.f2.length = v.f3.length
   ·rw [sJ_6 h6.1 h6.2, encJ, encJ]
    simp only [if_neg h5, if_pos h6.1, List.length_cons, List.length_append]
    rw [encM_map, encM_len IH, encM_perm]
    rw [zip_names]
    exact sortF_perm _
   ·rw [sJ_x h5 h6]
theorem dec_four (s : ByteArray) (pos : Nat) : (Utf8.decode s pos).2 ≤ 4 := by
 simp only [Utf8.decode]
 repeat' split
 all_goals simp_all
theorem runeB_pos (c : Nat) : 1 ≤ lensL (runeB c) := by
 unfold runeB
 repeat' split
 all_goals simp [lensL, unitB]
theorem quoteL_low (s : ByteArray) : ∀ (k pos : Nat), s.size - pos ≤ k → s.size - pos ≤ 4 * lensL (quoteL s k pos)
 | 0, pos, h => by omega
 | k + 1, pos, h => by
  by_cases hp : pos < s.size
  ·rw [quoteL_on s k pos hp]
   have h1 := runeB_pos (Utf8.decode s pos).1
   have h2 := (dec_small s pos).2
   have h3 := dec_four s pos
   have h4 := quoteL_low s k (pos + (Utf8.decode s pos).2) (by omega)
   have e : lensL (runeB (Utf8.decode s pos).1 ++ quoteL s k (pos + (Utf8.decode s pos).2)) = lensL (runeB (Utf8.decode s pos).1) + lensL (quoteL s k (pos + (Utf8.decode s pos).2)) := by simp [lensL]
   omega
  ·omega
theorem qB_size (s : ByteArray) : s.size ≤ 4 * (qB s).length := by
 have h := quoteL_low s (s.size + 1) 0 (by omega)
 have e : (qB s).length = 1 + (lensL (quoteL s (s.size + 1) 0) + 1) := by simp [qB, lensL, quoteB, List.length_flatten]; omega
 omega
theorem enc_pos {r : Nat} {v : J} (h : OKJ r v) : 1 ≤ (encJ r v).length := by
 obtain ⟨c, t, e, _⟩ := encJ_head r v h
 rw [e, List.length_cons]; omega
theorem nil_of {α : Type} {l : List α} (h : l.length = 0) : l = [] := List.length_eq_zero_iff.1 h
theorem leaf_wt {v : J} {r : Nat} (hn : nodeOK v.f0 v.f1 v.f2.length v.f3.length = true) (h5 : ¬ v.f0 = 5) (h6 : ¬ v.f0 = 6) : wtJ r v = 12 * v.f1.size + 16 ∧ v.f1.size ≤ 4 * (encB v).length ∧ v.f2 = [] ∧ v.f3 = [] := by
 have h3 : v.f2.length = 0 ∧ v.f3.length = 0 ∧ v.f1.size ≤ 4 * (encB v).length := by
  rcases nodeOK_kinds hn h5 h6 with h | h | h | h | h
  ·have := node0_ (.inl h) hn; exact ⟨this.2.1, this.2.2, by omega⟩
  ·have := node0_ (.inr (.inl h)) hn; exact ⟨this.2.1, this.2.2, by omega⟩
  ·have := node0_ (.inr (.inr h)) hn; exact ⟨this.2.1, this.2.2, by omega⟩
  ·rw [h] at hn
   have := node3_ hn
   refine ⟨this.2.1, this.2.2, ?_⟩
   unfold encB; rw [if_pos h, size_data]; omega
  ·rw [h] at hn
   have := node4_ hn
   refine ⟨this.2.1, this.2.2, ?_⟩
   unfold encB; rw [if_neg (by rw [h]; decide), if_pos h]; exact qB_size _
 have e2 := nil_of h3.1
 have e3 := nil_of h3.2.1
 refine ⟨?_, h3.2.2, e2, e3⟩
 cases r with
 | zero => rfl
 | succ r => unfold wtJ; rw [e2, e3]; simp
theorem encI_ge (enc : J → List UInt8) : ∀ (l : List J) (i : Nat), (l.map (fun y => (enc y).length)).sum ≤ (encI enc i l).length
 | [], _ => by simp
 | y :: l, i => by
  have := encI_ge enc l (i + 1)
  rw [encI]
  simp only [List.map_cons, List.sum_cons, List.length_append]
  omega
theorem sum_le_mul {α : Type} (f g : α → Nat) (c : Nat) : ∀ (l : List α), (∀ y, y ∈ l → f y ≤ c * g y) → (l.map f).sum ≤ c * (l.map g).sum
 | [], _ => by simp
 | y :: l, h => by
  have h1 := h y (List.mem_cons_self ..)
  have h2 := sum_le_mul f g c l (fun z hz => h z (List.mem_cons_of_mem _ hz))
  simp only [List.map_cons, List.sum_cons, Nat.mul_add]
  omega
theorem sum_two {α : Type} (f g : α → Nat) : ∀ (l : List α), (l.map (fun y => f y + g y)).sum = (l.map f).sum + (l.map g).sum
 | [] => by simp
 | y :: l => by simp only [List.map_cons, List.sum_cons, sum_two f g l]; omega
theorem wt_enc : ∀ (r : Nat) (v : J), OKJ r v → wtJ r v + 1 ≤ 65 * (encJ r v).length
 | 0, v, h => by
  obtain ⟨hn, h5, h6⟩ := h
  obtain ⟨w1, w2, _, _⟩ := leaf_wt (r := 0) hn h5 h6
  have := enc_pos (r := 0) ⟨hn, h5, h6⟩
  rw [w1]
  show _ ≤ 65 * (encB v).length
  change 1 ≤ (encB v).length at this
  omega
 | r + 1, v, h => by
  have IH := wt_enc r
  have hp := enc_pos h
  obtain ⟨hn, hi, hm⟩ := h
  by_cases h5 : v.f0 = 5
  ·rw [h5] at hn
   have n5 := node5_ hn
   have e2 := nil_of n5.2
   have s1 : (v.f3.map (fun y => wtJ r y + 1)).sum ≤ 65 * (v.f3.map (fun y => (encJ r y).length)).sum := sum_le_mul _ _ 65 _ (fun y hy => IH y (hi (.inl h5) y hy))
   have s2 := encI_ge (encJ r) v.f3 0
   rw [encJ, if_pos h5, List.length_cons, List.length_append, wtJ, e2, n5.1]
   simp only [List.map_nil, List.sum_nil, List.length_cons, List.length_nil]
   omega
  ·by_cases h6 : v.f0 = 6
   ·rw [h6] at hn
    have n6 := node6_ hn
    have hl : v.f2.length = v.f3.length := n6.2
    have s1 : (v.f2.map (fun s => 12 * s.size + 16)).sum = ((v.f2.zip v.f3).map (fun p => 12 * p.1.size + 16)).sum := by
     conv => lhs; rw [← map_fst_zip hl]
     rw [List.map_map]; rfl
    have s2 : (v.f3.map (fun y => wtJ r y + 1)).sum = ((v.f2.zip v.f3).map (fun p => wtJ r p.2 + 1)).sum := by
     conv => lhs; rw [← map_snd_zip hl]
     rw [List.map_map]; rfl
    have s3 : ((v.f2.zip v.f3).map (fun p => (12 * p.1.size + 16) + (wtJ r p.2 + 1))).sum ≤ 65 * lenP (encJ r) (v.f2.zip v.f3) := sum_le_mul _ _ 65 _ (fun p hp => by
     have h1 := IH p.2 (hi (.inr h6) p.2 (List.of_mem_zip hp).2)
     have h2 := qB_size p.1
     omega)
    rw [sum_two] at s3
    have s4 := encM_lenP (encJ r) v.f2 v.f3 0
    have s5 : (if (0 : Nat) = 0 ∧ v.f2.zip v.f3 ≠ [] then 1 else 0 : Nat) ≤ 1 := by split <;> omega
    rw [encJ, if_neg h5, if_pos h6, List.length_cons, List.length_append, wtJ, n6.1]
    simp only [List.length_cons, List.length_nil]
    omega
   ·obtain ⟨w1, w2, _, _⟩ := leaf_wt (r := r + 1) hn h5 h6
    rw [encJ, if_neg h5, if_neg h6] at hp ⊢
    rw [w1]
    omega
theorem mem_sum {α : Type} (f : α → Nat) {y : α} : ∀ {l : List α}, y ∈ l → f y ≤ (l.map f).sum
 | z :: l, h => by
  rw [List.map_cons, List.sum_cons]
  rcases List.mem_cons.1 h with e | h
  ·rw [e]; omega
  ·have := mem_sum f h; omega
theorem SmJ_of_wt : ∀ (r : Nat) (v : J), wtJ r v ≤ 17000000 → SmJ r v
 | 0, v, h => by unfold wtJ at h; unfold SmJ; omega
 | r + 1, v, h => by
  unfold wtJ at h
  refine ⟨by omega, fun s hs => ?_, fun y hy => SmJ_of_wt r y ?_⟩
  ·have := mem_sum (fun s : ByteArray => 12 * s.size + 16) hs
   omega
  ·have := mem_sum (fun y => wtJ r y + 1) hy
   omega
def Pr (l : List UInt8) : Prop := ∀ b, b ∈ l → 32 ≤ b.toNat ∧ b.toNat ≤ 126
theorem Pr.app {a b : List UInt8} (ha : Pr a) (hb : Pr b) : Pr (a ++ b) := fun x hx => (List.mem_append.1 hx).elim (ha x) (hb x)
theorem Pr.cons {c : UInt8} {b : List UInt8} (hc : 32 ≤ c.toNat ∧ c.toNat ≤ 126) (hb : Pr b) : Pr (c :: b) := fun x hx => (List.mem_cons.1 hx).elim (fun e => e ▸ hc) (hb x)
theorem Pr.nil : Pr [] := fun _ h => by cases h
def Nm (l : List UInt8) (i : Nat) : Prop := ∀ k, k < i → ∀ c : UInt8, l[k]? = some c → 32 ≤ c.toNat ∧ c.toNat ≤ 126
theorem Nm.more {l : List UInt8} {i j : Nat} (h : Nm l i) (hij : ∀ k, i ≤ k → k < j → ∀ c : UInt8, l[k]? = some c → 32 ≤ c.toNat ∧ c.toNat ≤ 126) : Nm l j := fun k hk c hc => by
 by_cases h1 : k < i
 ·exact h k h1 c hc
 ·exact hij k (by omega) hk c hc
theorem Nm.one {l : List UInt8} {i : Nat} {d : UInt8} (h : Nm l i) (hd : l[i]? = some d) (hp : 32 ≤ d.toNat ∧ d.toNat ≤ 126) : Nm l (i + 1) := h.more (fun k h1 h2 c hc => by
 obtain rfl : k = i := by omega
 rw [hd] at hc; injection hc with hc; exact hc ▸ hp)
end Go.Proofs.YtaalajhmfdcalaaDoor.X
namespace Go.Proofs.YtaalajhmfdcalaaDoor.X
open Go.RowKit Go.Lib Go.Proofs.YtaalajhmfdcalaaDoorW.PrintWords Go.Proofs.YtaalajhmfdcalaaDoorW.PrintLast Go.Proofs.YtaalajhmfdcalaaDoorW.PrintMore
structure SGeo (B Bo Br Ba blk Bp : Nat) : Prop where
 o : B ≤ Bo
 r : B ≤ Br
 a : B ≤ Ba
 k : B ≤ blk
 p : B ≤ Bp
 po : Bo ≠ Bp
 pr : Br ≠ Bp
 pa : Ba ≠ Bp
 pk : blk ≠ Bp
def okS (B Bp Br : Nat) (ok : Nat → Prop) (k : Nat) : Prop := (ok k ∧ k < B) ∨ (B ≤ k ∧ k ≠ Bp ∧ k ≠ Br)
structure SI (W : World) (Bo Br Ba blk Bp : Nat) (ok : Nat → Prop) (v2 v3 va : Value) (C : Array Value) (sn sv : Value) (ln : List ByteArray) (li : List J) (w : World) : Prop where
 o : w.heap[Bo]? = some (.cells #[v2, v3] 84 (0, 0))
 r : w.heap[Br]? = some (.cells #[.slice none 0 0, .slice none 0 0] 84 (0, 0))
 a : w.heap[Ba]? = some (.cells #[va] 107 (0, 0))
 k : w.heap[blk]? = some (.cells C 3 (0, 0))
 p : w.heap[Bp]? = some (.cells #[sn, sv] 84 (0, 0))
 names : Kd.string.R 9 w W.heap.size (fun k => k ≠ Bp ∧ k ≠ Br) sn ln
 items : Kd.N k25 25 w W.heap.size (fun k => okS W.heap.size Bp Br ok k ∧ some k ≠ sn.ownBlock) sv li
 bel : Below W.heap.size W w
section
variable {W w w' : World} {Bo Br Ba blk Bp : Nat} {ok : Nat → Prop} {v2 v3 va : Value} {C : Array Value} {sn sv : Value} {ln : List ByteArray} {li : List J}
theorem SI.below (h : SI W Bo Br Ba blk Bp ok v2 v3 va C sn sv ln li w) (hb : Below w.heap.size w w') : SI W Bo Br Ba blk Bp ok v2 v3 va C sn sv ln li w' :=
 ⟨(hb.block _ (lt_of_block h.o)).trans h.o, (hb.block _ (lt_of_block h.r)).trans h.r, (hb.block _ (lt_of_block h.a)).trans h.a, (hb.block _ (lt_of_block h.k)).trans h.k, (hb.block _ (lt_of_block h.p)).trans h.p, Kd.R_below h.names hb, Kd.N_below h.items hb, below_step h.bel hb⟩
theorem SI.ltB (h : SI W Bo Br Ba blk Bp ok v2 v3 va C sn sv ln li w) : W.heap.size ≤ w.heap.size := h.bel.size
theorem SI.name {v1 : Value} {w6 : World} {nm : ByteArray} (h : SI W Bo Br Ba blk Bp ok v2 v3 va C sn sv ln li w) (g : SGeo W.heap.size Bo Br Ba blk Bp) (ho : Kd.string.R 9 w6 W.heap.size (fun k => k ≠ Bp ∧ k ≠ Br) v1 (ln ++ [nm])) (hb : Below W.heap.size W w6) (hg : w.grownBy w6 sn.ownBlock)
  (hat : v1.ownBlock = sn.ownBlock ∨ ∃ b, v1.ownBlock = some b ∧ w.heap.size ≤ b) : SI W Bo Br Ba blk Bp ok v2 v3 va C v1 sv (ln ++ [nm]) li (w6.setCell ⟨Bp, 0, none⟩ v1) := by
 have key : ∀ {b : Nat} {c : Array Value} {t : TypeId}, w.heap[b]? = some (.cells c t (0, 0)) → 9 ≠ t → w6.heap[b]? = some (.cells c t (0, 0)) := fun hk ht => blk_grown hk hg (Kd.R_ne h.names hk ht)
 have far : ∀ {b : Nat} {o : Obj}, b ≠ Bp → w6.heap[b]? = some o → (w6.setCell ⟨Bp, 0, none⟩ v1).heap[b]? = some o := fun hne hk => (Below.heap_setCell _ _ _ _ hne).trans hk
 refine ⟨far g.po (key h.o (by decide)), far g.pr (key h.r (by decide)), far g.pa (key h.a (by decide)), far g.pk (key h.k (by decide)), (blk_set 0 v1 (key h.p (by decide))).trans rfl, Kd.R_far ho (fun _ hk => hk.1) _, Kd.N_far (Kd.N_after h.items hg hat) (fun k hk => ?_) _, below_set hb g.p⟩
 rcases hk.1 with ⟨_, h1⟩ | ⟨_, h1, _⟩
 ·have := g.p; show k ≠ Bp; omega
 ·exact h1
theorem SI.item {v1 : Value} {w6 : World} {y : J} (h : SI W Bo Br Ba blk Bp ok v2 v3 va C sn sv ln li w) (g : SGeo W.heap.size Bo Br Ba blk Bp) (ho : Kd.N k25 25 w6 W.heap.size (fun k => okS W.heap.size Bp Br ok k ∧ some k ≠ sn.ownBlock) v1 (li ++ [y])) (hb : Below W.heap.size W w6) (hg : w.grownBy w6 sv.ownBlock) :
  SI W Bo Br Ba blk Bp ok v2 v3 va C sn v1 ln (li ++ [y]) (w6.setCell ⟨Bp, 1, none⟩ v1) := by
 have key : ∀ {b : Nat} {c : Array Value} {t : TypeId}, w.heap[b]? = some (.cells c t (0, 0)) → 25 ≠ t → w6.heap[b]? = some (.cells c t (0, 0)) := fun hk ht => blk_grown hk hg (Kd.N_ne h.items hk ht)
 have far : ∀ {b : Nat} {o : Obj}, b ≠ Bp → w6.heap[b]? = some o → (w6.setCell ⟨Bp, 1, none⟩ v1).heap[b]? = some o := fun hne hk => (Below.heap_setCell _ _ _ _ hne).trans hk
 refine ⟨far g.po (key h.o (by decide)), far g.pr (key h.r (by decide)), far g.pa (key h.a (by decide)), far g.pk (key h.k (by decide)), (blk_set 1 v1 (key h.p (by decide))).trans rfl, Kd.R_far (Kd.R_over' h.names (Kd.N_typed h.items) (by decide) hg) (fun _ hk => hk.1) _, Kd.N_far ho (fun k hk => ?_) _, below_set hb g.p⟩
 rcases hk.1 with ⟨_, h1⟩ | ⟨_, h1, _⟩
 ·have := g.p; show k ≠ Bp; omega
 ·exact h1
end
end Go.Proofs.YtaalajhmfdcalaaDoor.X
namespace Go.Proofs.YtaalajhmfdcalaaDoor.X
open Go.RowKit Go.Lib Go.Proofs.YtaalajhmfdcalaaDoorW.PrintWords Go.Proofs.YtaalajhmfdcalaaDoorW.PrintLast Go.Proofs.YtaalajhmfdcalaaDoorW.PrintMore
def atC (n i : Nat) : Array Value := ((List.range n).map fun k : Nat => if k < i then Value.int .i64 (k : Int) else .int .i64 0).toArray
theorem atC_zero (n : Nat) : madeCells #[.int .i64 0] n = atC n 0 := by
 apply Array.ext
 ·simp [atC, madeCells]
 ·intro i h1 h2
  simp [atC, madeCells, Nat.mod_one]
theorem atC_set (n i : Nat) : (atC n i).setIfInBounds i (.int .i64 (i : Int)) = atC n (i + 1) := by
 apply Array.ext
 ·simp [atC]
 ·intro k h1 h2
  rw [Array.getElem_setIfInBounds]
  ·simp only [atC, List.getElem_toArray, List.getElem_map, List.getElem_range]
   by_cases hk : i = k
   ·subst hk; simp
   ·rw [if_neg hk]
    by_cases h3 : k < i
    ·rw [if_pos h3, if_pos (by omega)]
    ·rw [if_neg h3, if_neg (by omega)]
  ·simpa [atC] using h1
theorem atC_full (n : Nat) : atC n n = ((List.range n).map fun k : Nat => Value.int .i64 (k : Int)).toArray := by
 unfold atC
 congr 1
 apply List.map_congr_left
 intro k hk
 rw [if_pos (List.mem_range.1 hk)]
structure S1 (W : World) (Bo Br Ba blk n : Nat) (v2 v3 : Value) (i : Nat) (w : World) : Prop where
 o : w.heap[Bo]? = some (.cells #[v2, v3] 84 (0, 0))
 r : w.heap[Br]? = some (.cells #[.slice none 0 0, .slice none 0 0] 84 (0, 0))
 a : w.heap[Ba]? = some (.cells #[.slice (some ⟨blk, 0, none⟩) n n] 107 (0, 0))
 k : w.heap[blk]? = some (.cells (atC n i) 3 (0, 0))
 bel : Below W.heap.size W w
theorem S1.start (W : World) (n : Nat) (v2 v3 : Value) : S1 W W.heap.size (W.heap.size + 1) (W.heap.size + 1 + 1 + 1) (W.heap.size + 1 + 1) n v2 v3 0
  ((((W.alloc (.cells #[v2, v3] 84)).alloc (.cells #[.slice none 0 0, .slice none 0 0] 84)).alloc (.cells (madeCells #[.int .i64 0] n) 3)).alloc (.cells #[.slice (some ⟨W.heap.size + 1 + 1, 0, none⟩) n n] 107)) := by
 have e1 : (W.alloc (.cells #[v2, v3] 84)).heap.size = W.heap.size + 1 := by simp
 have e2 : ((W.alloc (.cells #[v2, v3] 84)).alloc (.cells #[.slice none 0 0, .slice none 0 0] 84)).heap.size = W.heap.size + 1 + 1 := by simp
 have e3 : (((W.alloc (.cells #[v2, v3] 84)).alloc (.cells #[.slice none 0 0, .slice none 0 0] 84)).alloc (.cells (madeCells #[.int .i64 0] n) 3)).heap.size = W.heap.size + 1 + 1 + 1 := by simp
 refine ⟨Below.alloc_at (Below.alloc_at (Below.alloc_at (heap_alloc_new _ _))), ?_, ?_, ?_, below_alloc (below_alloc (below_alloc (below_alloc (Below.refl _ _) _) _) _) _⟩
 ·have := heap_alloc_new (W.alloc (.cells #[v2, v3] 84)) (.cells #[.slice none 0 0, .slice none 0 0] 84)
  rw [e1] at this
  exact Below.alloc_at (Below.alloc_at this)
 ·have := heap_alloc_new (((W.alloc (.cells #[v2, v3] 84)).alloc (.cells #[.slice none 0 0, .slice none 0 0] 84)).alloc (.cells (madeCells #[.int .i64 0] n) 3)) (.cells #[.slice (some ⟨W.heap.size + 1 + 1, 0, none⟩) n n] 107)
  rw [e3] at this
  exact this
 ·have := heap_alloc_new ((W.alloc (.cells #[v2, v3] 84)).alloc (.cells #[.slice none 0 0, .slice none 0 0] 84)) (.cells (madeCells #[.int .i64 0] n) 3)
  rw [e2] at this
  rw [← atC_zero]
  exact Below.alloc_at this
section
variable {W w w' : World} {Bo Br Ba blk n : Nat} {v2 v3 : Value} {i : Nat}
theorem S1.drew (h : S1 W Bo Br Ba blk n v2 v3 i w) (q : Nat) : S1 W Bo Br Ba blk n v2 v3 i (w.drewN q) := ⟨h.o, h.r, h.a, h.k, pw_below_drewN h.bel q⟩
theorem S1.set (h : S1 W Bo Br Ba blk n v2 v3 i w) (hB : W.heap.size ≤ blk) (ho : Bo ≠ blk) (hr : Br ≠ blk) (ha : Ba ≠ blk) : S1 W Bo Br Ba blk n v2 v3 (i + 1) (w.setCell ⟨blk, i, none⟩ (.int .i64 (i : Int))) :=
 ⟨(Below.heap_setCell _ _ _ _ ho).trans h.o, (Below.heap_setCell _ _ _ _ hr).trans h.r, (Below.heap_setCell _ _ _ _ ha).trans h.a, by rw [← atC_set]; exact blk_set _ _ h.k, below_set h.bel hB⟩
end
theorem perm_lt {l : List Nat} {n i : Nat} (h : l.Perm (List.range n)) (hi : i < n) : l.getD i 0 < n := by
 have hl : l.length = n := by rw [h.length_eq, List.length_range]
 rw [List.getD_eq_getElem?_getD, List.getElem?_eq_getElem (by omega)]
 exact List.mem_range.1 (h.subset (List.getElem_mem (by omega)))
theorem take_map {β : Type} (f : Nat → β) {l : List Nat} {n i : Nat} (h : l.Perm (List.range n)) (hi : i < n) : (l.take i).map f ++ [f (l.getD i 0)] = (l.take (i + 1)).map f := by
 have hl : l.length = n := by rw [h.length_eq, List.length_range]
 rw [List.take_succ_eq_append_getElem (by omega), List.map_append, List.getD_eq_getElem?_getD, List.getElem?_eq_getElem (by omega)]
 rfl
def CellOf (W : World) (a : Addr) (v : Value) : Prop := W.cell? a = some v
theorem CellOf.at {W w : World} {a : Addr} {v : Value} (h : CellOf W a v) (hb : Below W.heap.size W w) : w.cell? a = some v := (hb.cell (World.block_lt_of_cell? W _ h)).trans h
theorem name_at {W : World} {ok : Nat → Prop} {A : Option Addr} {xs : List ByteArray} (h : Kd.F Kd.string W ok A xs.length xs) (k : Nat) (hk : k < xs.length) : ∃ ad : Addr, A = some ad ∧ CellOf W (ad.add k) (.string (nmAt xs k)) := by
 obtain ⟨ad, e, q0⟩ := Kd.at_string (Kd.F_now h) (k : Int) (by omega) (by omega)
 exact ⟨ad, e, q0⟩
theorem item_at {W : World} {ok : Nat → Prop} {A : Option Addr} {xs : List J} (h : Kd.F k25 W ok A xs.length xs) (k : Nat) (hk : k < xs.length) :
  ∃ ad B2 k2 B3 k3, A = some ad ∧ CellOf W (ad.add (k * 4)) (.int .i64 (rd_T25 xs k).f0) ∧ CellOf W ⟨(ad.add (k * 4)).block, (ad.add (k * 4)).off + 1, none⟩ (.string (rd_T25 xs k).f1) ∧ CellOf W ⟨(ad.add (k * 4)).block, (ad.add (k * 4)).off + 2, none⟩ (.slice B2 (rd_T25 xs k).f2.length k2) ∧ CellOf W ⟨(ad.add (k * 4)).block, (ad.add (k * 4)).off + 3, none⟩ (.slice B3 (rd_T25 xs k).f3.length k3) ∧
   ∀ w, Below W.heap.size W w → Kd.FK k25 w (fun j => ok j ∧ j < W.heap.size) (rd_T25 xs k) [.int .i64 (rd_T25 xs k).f0, .string (rd_T25 xs k).f1, .slice B2 (rd_T25 xs k).f2.length k2, .slice B3 (rd_T25 xs k).f3.length k3] := by
 obtain ⟨ad, c, e, _, hK, hc0, _⟩ := Kd.F_get h z25 (k : Int) (by omega) (by omega)
 have hc : ∀ j u, c[j]? = some u → W.cell? (ad.add (k * 4 + j)) = some u := hc0
 have hK' := hK
 obtain ⟨A2, c2, A3, c3, rfl, l2, g2, l3, g3⟩ := k25_openF hK
 exact ⟨ad, A2, c2, A3, c3, e, hc 0 _ rfl, by rw [← add_field _ _ 1 (by omega)]; exact hc 1 _ rfl, by rw [← add_field _ _ 2 (by omega)]; exact hc 2 _ rfl, by rw [← add_field _ _ 3 (by omega)]; exact hc 3 _ rfl, fun w hb => Foot.old hK' hb⟩
theorem SI.fin {W w : World} {Bo Br Ba blk Bp : Nat} {ok : Nat → Prop} {v2 v3 va : Value} {C : Array Value} {An Ai : Option Addr} {cn ci : Nat} {ln : List ByteArray} {li : List J} (h : SI W Bo Br Ba blk Bp ok v2 v3 va C (.slice An ln.length cn) (.slice Ai li.length ci) ln li w) (g : SGeo W.heap.size Bo Br Ba blk Bp) :
  Below W.heap.size W ((w.setCell ⟨Br, 0, none⟩ (.slice An ln.length cn)).setCell ⟨Br, 1, none⟩ (.slice Ai li.length ci)) ∧ ((w.setCell ⟨Br, 0, none⟩ (.slice An ln.length cn)).setCell ⟨Br, 1, none⟩ (.slice Ai li.length ci)).heap[Br]? = some (.cells #[.slice An ln.length cn, .slice Ai li.length ci] 84 (0, 0)) ∧ ln.length ≤ cn ∧ li.length ≤ ci ∧
   Kd.F Kd.string ((w.setCell ⟨Br, 0, none⟩ (.slice An ln.length cn)).setCell ⟨Br, 1, none⟩ (.slice Ai li.length ci)) (fun k => ok k ∨ W.heap.size ≤ k) An ln.length ln ∧ Kd.F k25 ((w.setCell ⟨Br, 0, none⟩ (.slice An ln.length cn)).setCell ⟨Br, 1, none⟩ (.slice Ai li.length ci)) (fun k => ok k ∨ W.heap.size ≤ k) Ai li.length li := by
 have hn := Kd.R_far (p := ⟨Br, 1, none⟩) (Kd.R_far (p := ⟨Br, 0, none⟩) h.names (fun _ hk => hk.2) (.slice An ln.length cn)) (fun _ hk => hk.2) (.slice Ai li.length ci)
 have far : ∀ k, okS W.heap.size Bp Br ok k ∧ some k ≠ (Value.slice An ln.length cn).ownBlock → k ≠ Br := fun k hk => by
  rcases hk.1 with ⟨_, h1⟩ | ⟨_, _, h1⟩
  ·have := g.r; omega
  ·exact h1
 have hi := Kd.N_far (p := ⟨Br, 1, none⟩) (Kd.N_far (p := ⟨Br, 0, none⟩) h.items far (.slice An ln.length cn)) far (.slice Ai li.length ci)
 refine ⟨below_set (below_set h.bel g.r) g.r, (blk_set 1 _ (blk_set 0 _ h.r)).trans rfl, (Kd.R_reads' h.names).2.1, (Kd.N_reads' h.items).2.1, Kd.F_mono (Kd.R_F (Kd.R_bound hn)) (fun k hk => Or.inr hk.2.1), Kd.F_mono (Kd.N_F hi) (fun k hk => ?_)⟩
 rcases hk.1 with ⟨h1, _⟩ | ⟨h1, _, _⟩
 ·exact Or.inl h1
 ·exact Or.inr h1
theorem names_at {W : World} {ok : Nat → Prop} {A : Option Addr} {xs : List ByteArray} (h : Kd.F Kd.string W ok A xs.length xs) : ∃ ad : Addr, (0 < xs.length → A = some ad ∧ ad.block < W.heap.size) ∧ ∀ k, k < xs.length → W.cell? (ad.add k) = some (.string (nmAt xs k)) := by
 by_cases h0 : 0 < xs.length
 ·obtain ⟨ad, e, q0⟩ := Kd.at_string (Kd.F_now h) ((0 : Nat) : Int) (by omega) (by omega)
  have hb := World.block_lt_of_cell? W _ q0
  rw [add_block] at hb
  refine ⟨ad, fun _ => ⟨e, hb⟩, fun k hk => ?_⟩
  obtain ⟨ad', e', q⟩ := Kd.at_string (Kd.F_now h) (k : Int) (by omega) (by omega)
  obtain rfl := Option.some.inj (e.symm.trans e')
  exact q
 ·exact ⟨⟨0, 0, none⟩, fun h => absurd h h0, fun k hk => absurd hk (by omega)⟩
structure S2 (W : World) (Bo Br Ba blk : Nat) (ns : List ByteArray) (v2 v3 : Value) (l : List Nat) (C : Array Value) (w : World) : Prop where
 o : w.heap[Bo]? = some (.cells #[v2, v3] 84 (0, 0))
 r : w.heap[Br]? = some (.cells #[.slice none 0 0, .slice none 0 0] 84 (0, 0))
 a : w.heap[Ba]? = some (.cells #[.slice (some ⟨blk, 0, none⟩) ns.length ns.length] 107 (0, 0))
 k : w.heap[blk]? = some (.cells C 3 (0, 0))
 bel : Below W.heap.size W w
 row : ∀ k, k < ns.length → C[k]? = some (.int .i64 ((l.getD k 0 : Nat) : Int))
 perm : l.Perm (List.range ns.length)
 ord : ∀ i j, i < j → j < ns.length → ltN ns (l.getD j 0) (l.getD i 0) = false
theorem sort_S1 {W w : World} {ok : Nat → Prop} {Bo Br Ba blk n3 c2 c3 : Nat} {A2 A3 : Option Addr} {ns : List ByteArray} (hsz : ns.length ≤ 1000000) (hF : Kd.F Kd.string W ok A2 ns.length ns) (h : S1 W Bo Br Ba blk ns.length (.slice A2 ns.length c2) (.slice A3 n3 c3) ns.length w) (hB : W.heap.size ≤ blk) (ho : Bo ≠ blk) (hr : Br ≠ blk) (ha : Ba ≠ blk) :
  Calls Tryd.prog 77 #[.iface 107 (.slice (some ⟨blk, 0, none⟩) ns.length ns.length), .func (.func 78) #[] #[.pointer (some ⟨Bo, 0, none⟩), .pointer (some ⟨Ba, 0, none⟩)]] w fun e w' => e = .returned (.tuple #[]) ∧ ∃ l C, S2 W Bo Br Ba blk ns (.slice A2 ns.length c2) (.slice A3 n3 c3) l C w' := by
 obtain ⟨ad, h1, h2⟩ := names_at hF
 have hk := h.k
 rw [atC_full] at hk
 refine (sort_calls Bo Ba blk ns.length c2 c3 ad A2 A3 n3 ns w rfl hsz (fun h0 => (h1 h0).1) h.o h.a hk ho ha (fun k hk => ?_) (fun h0 => ?_)).mono ?_
 ·have h3 := h2 k hk
  rw [h.bel.cell (World.block_lt_of_cell? W _ h3)]
  exact h3
 ·have := (h1 h0).2
  omega
 ·rintro e w' ⟨rfl, l, hl⟩
  obtain ⟨C, hC⟩ := hl.row
  have far : ∀ {b : Nat} {x : Obj}, b ≠ blk → w.heap[b]? = some x → w'.heap[b]? = some x := fun hne hx => (hl.keep.2 _ (lt_of_block hx) hne (by simp)).trans hx
  refine ⟨rfl, l, C, far ho h.o, far hr h.r, far ha h.a, hC, ⟨hl.os.trans h.bel.os, hl.tape.trans h.bel.tape, hl.output.trans h.bel.output, Nat.le_trans h.bel.size hl.keep.1, fun k hk => ?_⟩, fun k hk => ?_, hl.perm, hl.ord⟩
  ·rw [hl.keep.2 k (by have := h.bel.size; omega) (by omega) (by simp)]
   exact h.bel.block k hk
  ·rw [← blk_cell hC k]
   exact hl.cells k hk
theorem S2.drew {W w : World} {Bo Br Ba blk : Nat} {ns : List ByteArray} {v2 v3 : Value} {l : List Nat} {C : Array Value} (h : S2 W Bo Br Ba blk ns v2 v3 l C w) (q : Nat) : S2 W Bo Br Ba blk ns v2 v3 l C (w.drewN q) := ⟨h.o, h.r, h.a, h.k, pw_below_drewN h.bel q, h.row, h.perm, h.ord⟩
theorem S2.geo {W w : World} {Bo Br Ba blk : Nat} {ns : List ByteArray} {v2 v3 : Value} {l : List Nat} {C : Array Value} (h : S2 W Bo Br Ba blk ns v2 v3 l C w) (ho : W.heap.size ≤ Bo) (hr : W.heap.size ≤ Br) (ha : W.heap.size ≤ Ba) (hk : W.heap.size ≤ blk) : SGeo W.heap.size Bo Br Ba blk w.heap.size :=
 ⟨ho, hr, ha, hk, h.bel.size, Nat.ne_of_lt (lt_of_block h.o), Nat.ne_of_lt (lt_of_block h.r), Nat.ne_of_lt (lt_of_block h.a), Nat.ne_of_lt (lt_of_block h.k)⟩
theorem S2.start {W w : World} {Bo Br Ba blk : Nat} {ns : List ByteArray} {v2 v3 : Value} {l : List Nat} {C : Array Value} (h : S2 W Bo Br Ba blk ns v2 v3 l C w) (ok : Nat → Prop) :
  SI W Bo Br Ba blk w.heap.size ok v2 v3 (.slice (some ⟨blk, 0, none⟩) ns.length ns.length) C (.slice none 0 0) (.slice none 0 0) [] [] (w.alloc (.cells #[.slice none 0 0, .slice none 0 0] 84)) :=
 ⟨Below.alloc_at h.o, Below.alloc_at h.r, Below.alloc_at h.a, Below.alloc_at h.k, heap_alloc_new _ _, Kd.R_nil _ _ _ _ _, Kd.N_nil _ _ _ _ _, below_alloc h.bel _⟩
set_option maxRecDepth 1000000 in
set_option maxHeartbeats 4000000 in
theorem sorted_calls : SortedOK := by
 intro W ok A2 A3 c2 c3 ns ys hny hlen hF2 hc2 hF3 hc3
 have hmk := print_make_of (P := Tryd.prog) 107 3 (.int .i64 0) 8 Tryd.underlying107 (by kernel_rfl) rfl (by decide) ns.length (by omega)
 have HST := am (S1.start W ns.length (.slice A2 ns.length c2) (.slice A3 ys.length c3))
 have HF2 := am hF2
 have HF3 := am hF3
 have HNY := am hny
 clear hF2 hF3 hny
 go_enter Tryd.func54, Tryd.ntmps54
 go_wp2
 clear hmk
 go_loopg [14] (ns.length + 1) (fun g v14 wr => ∃ (i : Nat), v14 = .int .i64 (i : Int) ∧ i ≤ ns.length ∧ ns.length + 1 ≤ i + g ∧ Aside0 (S1 W W.heap.size (W.heap.size + 1) (W.heap.size + 1 + 1 + 1) (W.heap.size + 1 + 1) ns.length (.slice A2 ns.length c2) (.slice A3 ys.length c3) i wr))
 case atStart => exact ⟨0, rfl, by omega, by omega, HST⟩
 case round =>
  obtain ⟨i, rfl, hi, hg, HS⟩ := hrel
  clear HST
  have ca := (blk_cell HS.out.a 0).trans rfl
  have hsz := lt_of_block HS.out.k
  by_cases hlt : i < ns.length
  ·cases gk with
   | zero => omega
   | succ g =>
    have p1 : (0 ≤ (i : Int)) = True := eq_true (by omega)
    have p2 : ((i : Int) < (ns.length : Int)) = True := eq_true (by omega)
    have hwn := wrap_next i ns.length hlt (by omega)
    have HWN := am hwn
    have ck : wr.cell? ⟨W.heap.size + 1 + 1, i, none⟩ = some (.int .i64 0) := (blk_cell HS.out.k i).trans (by simp [atC, hlt])
    have fk := blk_frozen HS.out.k i
    go_wp2
    go_roundg g
    case measure => omega
    case rel => exact ⟨i + 1, (by first | exact congrArg (Value.int .i64) HWN.out | exact congrArg (Value.int .i64) (show (i : Int) + 1 = ((i + 1 : Nat) : Int) by omega)), by omega, by omega, ⟨by repeat (first | exact HS.out | apply S1.drew | (refine S1.set ?_ (by omega) (by omega) (by omega) (by omega)))⟩⟩
  ·have p2 : ((i : Int) < (ns.length : Int)) = False := eq_false (by omega)
   obtain rfl : i = ns.length := by omega
   have HF4 := am (show Kd.F Kd.string W ok A2 ns.length ns from HF2.out)
   go_wp2_with (go_at_call 77; (with_reducible refine (sort_S1 hlen HF4.out (by repeat (first | exact HS.out | apply S1.drew)) (by omega) (by omega) (by omega) (by omega)).mono ?_); rintro e w1 ⟨rfl, l, C, hs⟩; have HT := am hs; clear hs; have ca : (w1.alloc (Obj.cells #[.slice none 0 0, .slice none 0 0] 84)).cell? ⟨W.heap.size + 1 + 1 + 1, 0, none⟩ = some (.slice (some ⟨W.heap.size + 1 + 1, 0, none⟩) ns.length ns.length) := (blk_cell (Below.alloc_at HT.out.a) 0).trans rfl)
   have HG := am (HT.out.geo (by omega) (by omega) (by omega) (by omega))
   have HP := am HT.out.perm
   have HO := am HT.out.ord
   have HC := am HT.out.row
   have HSI := am (HT.out.start ok)
   have HB1 := am (HT.out.bel.size)
   clear ca HT HS hg hi p2 hsz HF4
   generalize w1.heap.size = Bp at HG HSI HB1 ⊢
   generalize w1.alloc _ = wA at HSI ⊢
   go_loopg [28] (ns.length + 1) (fun g v28 wr => ∃ (i : Nat) (sn sv : Value), v28 = .int .i64 (i : Int) ∧ i ≤ ns.length ∧ ns.length + 1 ≤ i + g ∧ Aside0 (SI W W.heap.size (W.heap.size + 1) (W.heap.size + 1 + 1 + 1) (W.heap.size + 1 + 1) Bp ok (.slice A2 ns.length c2) (.slice A3 ys.length c3) (.slice (some ⟨W.heap.size + 1 + 1, 0, none⟩) ns.length ns.length) C sn sv ((l.take i).map (fun k => nmAt ns k)) ((l.take i).map (fun k : Nat => rd_T25 ys (k : Int))) wr))
   case atStart => exact ⟨0, _, _, rfl, by omega, by omega, by rw [List.take_zero]; exact HSI⟩
   case round =>
    obtain ⟨i, sn, sv, rfl, hi, hg, HS⟩ := hrel
    clear HSI
    by_cases hlt : i < ns.length
    ·cases gk with
     | zero => omega
     | succ g =>
      have p1 : (0 ≤ (i : Int)) = True := eq_true (by omega)
      have p2 : ((i : Int) < (ns.length : Int)) = True := eq_true (by omega)
      have hwn := wrap_next i ns.length hlt (by omega)
      have HWN := am hwn
      have ck : wr.cell? ⟨W.heap.size + 1 + 1, i, none⟩ = some (.int .i64 ((l.getD i 0 : Nat) : Int)) := (blk_cell HS.out.k i).trans (HC.out i hlt)
      have HRW := am (HC.out i hlt)
      clear hwn
      obtain ⟨k, hk⟩ : ∃ k, k = l.getD i 0 := ⟨_, rfl⟩
      have hkn : k < ns.length := by rw [hk]; exact perm_lt HP.out hlt
      have HLN := am (take_map (fun k => nmAt ns k) HP.out hlt)
      have HLI := am (take_map (fun k : Nat => rd_T25 ys (k : Int)) HP.out hlt)
      rw [← hk] at ck
      rw [← hk] at HLN HLI
      have HK := am hk
      clear hk HRW
      have HL1 := am (show ((l.take i).map (fun k => nmAt ns k)).length ≤ 1000000 by rw [List.length_map, List.length_take]; omega)
      have HL2 := am (show ((l.take i).map (fun k : Nat => rd_T25 ys (k : Int))).length ≤ 1000000 by rw [List.length_map, List.length_take]; omega)
      generalize (l.take i).map (fun k => nmAt ns k) = ln at HS HLN HL1
      generalize (l.take i).map (fun k : Nat => rd_T25 ys (k : Int)) = li at HS HLI HL2
      obtain ⟨An, cn, en⟩ := Kd.R_slice HS.out.names
      subst en
      obtain ⟨Ai, ci, ei⟩ := Kd.N_slice HS.out.items
      subst ei
      obtain ⟨ad, e8, hnk⟩ := name_at HF2.out k hkn
      subst e8
      have HNK := am hnk
      clear hnk
      have p3 : (0 ≤ (k : Int)) = True := eq_true (by omega)
      have p4 : ((k : Int) < (ns.length : Int)) = True := eq_true (by omega)
      go_wp2
      refine start_ (n := 11) (S := fun w' => w'.cell? ⟨Bp, 0, none⟩ = some (.slice An ln.length cn) ∧ w'.cell? ⟨W.heap.size, 0, none⟩ = some (.slice (some ad) ns.length c2) ∧ w'.cell? (ad.add k) = some (.string (nmAt ns k))) (ds := [10]) #[false, false, false, false, false, false, false, false, false, false, false] (by kernel_rfl) rfl rfl ⟨(blk_cell HS.out.p 0).trans rfl, (blk_cell HS.out.o 0).trans rfl, HNK.out.at (pw_below_drewN HS.out.bel 1)⟩ (fun hHeld => ?_)
      have HS2 := am (HS.out.below (show Below wr.heap.size wr wr.drew from pw_below_drewN (Below.refl _ _) 1))
      generalize wr.drew = w2 at HS2 hHeld ⊢
      refine pure_ (i := 0) (N := some 32) (v := ?_) (a' := ?_) #[true, false, false, false, false, false, false, false, false, false, false] rfl rfl (by kernel_rfl) (fun _ _ _ h => h) (Or.inl ⟨by rfl, ?_⟩) ?_ ?_
      rotate_left
      ·intro w'
       go_simp
       with_reducible rfl
      rotate_left
      ·simp only [Act.put, sAx, sZx, sSx, i64_w, i32_w]
       rfl
      refine pure_ (i := 2) (N := some 34) (v := ?_) (a' := ?_) #[true, false, true, false, false, false, false, false, false, false, false] rfl rfl (by kernel_rfl) (fun _ _ _ h => h) (Or.inl ⟨by rfl, ?_⟩) ?_ ?_
      rotate_left
      ·intro w'
       go_simp
       with_reducible rfl
      rotate_left
      ·simp only [Act.put, sAx, sZx, sSx, i64_w, i32_w]
       rfl
      refine pure_ (i := 4) (N := some 36) (v := ?_) (a' := ?_) #[true, false, true, false, true, false, false, false, false, false, false] rfl rfl (by kernel_rfl) (fun _ _ _ h => h) (Or.inl ⟨by rfl, ?_⟩) ?_ ?_
      rotate_left
      ·intro w'
       go_simp
       with_reducible rfl
      rotate_left
      ·simp only [Act.put, sAx, sZx, sSx, i64_w, i32_w]
       rfl
      refine take_ (i := 1) (N := some 33) (v := ?_) (a' := ?_) #[true, true, true, false, true, false, false, false, false, false, false] rfl rfl (by kernel_rfl) (fun _ _ _ h => h) (Or.inl ⟨by rfl, ?_⟩) hHeld ?_ ?_
      rotate_left
      ·rintro w' ⟨s0, s1, s2⟩
       go_simp
       with_reducible rfl
      rotate_left
      ·simp only [Act.put, sAx, sZx, sSx, i64_w, i32_w]
       rfl
      refine take_ (i := 3) (N := some 35) (v := ?_) (a' := ?_) #[true, true, true, true, true, false, false, false, false, false, false] rfl rfl (by kernel_rfl) (fun _ _ _ h => h) (Or.inl ⟨by rfl, ?_⟩) hHeld ?_ ?_
      rotate_left
      ·rintro w' ⟨s0, s1, s2⟩
       go_simp
       with_reducible rfl
      rotate_left
      ·simp only [Act.put, sAx, sZx, sSx, i64_w, i32_w]
       rfl
      refine pure_ (i := 5) (N := some 37) (v := ?_) (a' := ?_) #[true, true, true, true, true, true, false, false, false, false, false] rfl rfl (by kernel_rfl) (fun _ _ _ h => h) (Or.inl ⟨by rfl, ?_⟩) ?_ ?_
      rotate_left
      ·intro w'
       go_simp
       with_reducible rfl
      rotate_left
      ·simp only [Act.put, sAx, sZx, sSx, i64_w, i32_w]
       rfl
      refine take_ (i := 6) (N := some 38) (v := ?_) (a' := ?_) #[true, true, true, true, true, true, true, false, false, false, false] rfl rfl (by kernel_rfl) (fun _ _ _ h => h) (Or.inl ⟨by rfl, ?_⟩) hHeld ?_ ?_
      rotate_left
      ·rintro w' ⟨s0, s1, s2⟩
       go_simp
       with_reducible rfl
      rotate_left
      ·simp only [Act.put, sAx, sZx, sSx, i64_w, i32_w]
       rfl
      refine one_ (i := 7) (N := some 39) #[true, true, true, true, true, true, true, true, false, false, false] rfl rfl (by kernel_rfl) (by decide) (fun K hK => ?_)
      refine value_ (w1 := ?_) (v := ?_) (by rfl) rfl ?_ ?_
      rotate_left 2
      ·go_simp
       constructor
       ·rfl
       ·rfl
      refine hK.out _ _ ⟨(blk_cell (blk_alloc HS2.out.p _) 0).trans rfl, (blk_cell (blk_alloc HS2.out.o _) 0).trans rfl, HNK.out.at (below_alloc HS2.out.bel _)⟩ (fun hHeld => ?_)
      clear hK K
      refine norm_ (a' := ?_) ?_ ?_
      rotate_left
      ·show Act.put _ (some 39) _ = _
       simp only [Act.put, sAx, sZx, sSx, i64_w, i32_w]
       rfl
      refine one_ (i := 8) (N := some 40) #[true, true, true, true, true, true, true, true, true, false, false] rfl rfl (by kernel_rfl) (by decide) (fun K hK => ?_)
      refine Kd.R_append_step Kd.string (w0 := W) W.heap.size (by rfl) (.tmp 33) (.tmp 39) 22 9 (.string ⟨#[]⟩) 16 rfl Tryd.underlying22 info9 rfl (by decide) (by omega) (.slice An ln.length cn) ln (nmAt ns k) [.string (nmAt ns k)] (fun k_ => k_ ≠ Bp ∧ k_ ≠ W.heap.size + 1) (fun _ => False) rfl rfl ?aP (fun _ hk => hk.elim) ?aF ?aO ?aB ?aS ?aL ?_
      (case aP => exact rfl)
      (case aF => exact (fun k_ hk => ⟨by have := lt_of_block HS2.out.p; omega, by have := lt_of_block HS2.out.r; omega⟩))
      (case aO => exact HS2.out.names)
      (case aB => exact HS2.out.bel)
      (case aS => exact HS2.out.ltB)
      (case aL => have := HL1.out; omega)
      intro v1 w6 ho hb hg hat
      obtain ⟨A1, c1, e1⟩ := Kd.R_slice ho
      subst e1
      have b1 := am (blk_grown HS2.out.p hg (Kd.R_ne HS2.out.names HS2.out.p (by decide)))
      have b2 := am (blk_grown HS2.out.o hg (Kd.R_ne HS2.out.names HS2.out.o (by decide)))
      have hs3 := HS2.out.name HG.out ho hb hg hat
      rw [List.length_append, List.length_singleton] at hs3
      have HS3 := am hs3
      clear hs3
      have HB6 := am hb
      have x3 := (blk_cell b1.out 0).trans rfl
      have xf := blk_frozen b1.out 0
      clear ho hb hg hat
      refine hK.out _ _ ⟨(blk_cell b1.out 0).trans rfl, (blk_cell b2.out 0).trans rfl, HNK.out.at HB6.out⟩ (fun hHeld => ?_)
      clear hK K
      refine norm_ (a' := ?_) ?_ ?_
      rotate_left
      ·show Act.put _ (some 40) _ = _
       simp only [Act.put, sAx, sZx, sSx, i64_w, i32_w]
       rfl
      refine pure_ (i := 9) (N := some 41) (v := ?_) (a' := ?_) #[true, true, true, true, true, true, true, true, true, true, false] rfl rfl (by kernel_rfl) (fun _ _ _ h => h) (Or.inl ⟨by rfl, ?_⟩) ?_ ?_
      rotate_left
      ·intro w'
       go_simp
       with_reducible rfl
      rotate_left
      ·simp only [Act.put, sAx, sZx, sSx, i64_w, i32_w]
       rfl
      refine last_ (i := 10) (N := none) #[true, true, true, true, true, true, true, true, true, true, true] rfl rfl (by kernel_rfl) (by decide) (fun K hK => ?_)
      refine skip_ (w1 := ?_) (by rfl) rfl ?_ ?_
      rotate_left
      ·go_simp
       rfl
      refine hK.out _ _ ?_
      clear hK K
      refine done_ (by kernel_rfl) ?_
      try go_wp2
      generalize w6.setCell _ _ = w7 at HS3 ⊢
      clear HS HS2 HB6 b1 b2 x3 xf HNK hHeld HL1
      have HS := HS3
      clear HS3
      obtain ⟨ad3, B2, k2, B3, k3, e9, q0, q1, q2, q3, hfk⟩ := item_at HF3.out k (by have := HNY.out; omega)
      subst e9
      have HQ0 := am q0
      have HQ1 := am q1
      have HQ2 := am q2
      have HQ3 := am q3
      have HFK := am hfk
      clear q0 q1 q2 q3 hfk
      have p5 : ((k : Int) < (ys.length : Int)) = True := eq_true (by have := HNY.out; omega)
      refine start_ (n := 11) (S := fun w' => w'.cell? ⟨Bp, 1, none⟩ = some (.slice Ai li.length ci) ∧ w'.cell? ⟨W.heap.size, 1, none⟩ = some (.slice (some ad3) ys.length c3) ∧ w'.cell? (ad3.add (k * 4)) = some (.int .i64 (rd_T25 ys k).f0) ∧ w'.cell? ⟨(ad3.add (k * 4)).block, (ad3.add (k * 4)).off + 1, none⟩ = some (.string (rd_T25 ys k).f1) ∧ w'.cell? ⟨(ad3.add (k * 4)).block, (ad3.add (k * 4)).off + 2, none⟩ = some (.slice B2 (rd_T25 ys k).f2.length k2) ∧ w'.cell? ⟨(ad3.add (k * 4)).block, (ad3.add (k * 4)).off + 3, none⟩ = some (.slice B3 (rd_T25 ys k).f3.length k3)) (ds := [10]) #[false, false, false, false, false, false, false, false, false, false, false] (by kernel_rfl) rfl rfl ⟨(blk_cell HS.out.p 1).trans rfl, (blk_cell HS.out.o 1).trans rfl, HQ0.out.at (pw_below_drewN HS.out.bel 1), HQ1.out.at (pw_below_drewN HS.out.bel 1), HQ2.out.at (pw_below_drewN HS.out.bel 1), HQ3.out.at (pw_below_drewN HS.out.bel 1)⟩ (fun hHeld => ?_)
      have HS2 := am (HS.out.below (show Below w7.heap.size w7 w7.drew from pw_below_drewN (Below.refl _ _) 1))
      generalize w7.drew = w8 at HS2 hHeld ⊢
      refine pure_ (i := 0) (N := some 42) (v := ?_) (a' := ?_) #[true, false, false, false, false, false, false, false, false, false, false] rfl rfl (by kernel_rfl) (fun _ _ _ h => h) (Or.inl ⟨by rfl, ?_⟩) ?_ ?_
      rotate_left
      ·intro w'
       go_simp
       with_reducible rfl
      rotate_left
      ·simp only [Act.put, sAx, sZx, sSx, i64_w, i32_w]
       rfl
      refine pure_ (i := 2) (N := some 44) (v := ?_) (a' := ?_) #[true, false, true, false, false, false, false, false, false, false, false] rfl rfl (by kernel_rfl) (fun _ _ _ h => h) (Or.inl ⟨by rfl, ?_⟩) ?_ ?_
      rotate_left
      ·intro w'
       go_simp
       with_reducible rfl
      rotate_left
      ·simp only [Act.put, sAx, sZx, sSx, i64_w, i32_w]
       rfl
      refine pure_ (i := 4) (N := some 46) (v := ?_) (a' := ?_) #[true, false, true, false, true, false, false, false, false, false, false] rfl rfl (by kernel_rfl) (fun _ _ _ h => h) (Or.inl ⟨by rfl, ?_⟩) ?_ ?_
      rotate_left
      ·intro w'
       go_simp
       with_reducible rfl
      rotate_left
      ·simp only [Act.put, sAx, sZx, sSx, i64_w, i32_w]
       rfl
      refine take_ (i := 1) (N := some 43) (v := ?_) (a' := ?_) #[true, true, true, false, true, false, false, false, false, false, false] rfl rfl (by kernel_rfl) (fun _ _ _ h => h) (Or.inl ⟨by rfl, ?_⟩) hHeld ?_ ?_
      rotate_left
      ·rintro w' ⟨s0, s1, s2, s3, s4, s5⟩
       go_simp
       with_reducible rfl
      rotate_left
      ·simp only [Act.put, sAx, sZx, sSx, i64_w, i32_w]
       rfl
      refine take_ (i := 3) (N := some 45) (v := ?_) (a' := ?_) #[true, true, true, true, true, false, false, false, false, false, false] rfl rfl (by kernel_rfl) (fun _ _ _ h => h) (Or.inl ⟨by rfl, ?_⟩) hHeld ?_ ?_
      rotate_left
      ·rintro w' ⟨s0, s1, s2, s3, s4, s5⟩
       go_simp
       with_reducible rfl
      rotate_left
      ·simp only [Act.put, sAx, sZx, sSx, i64_w, i32_w]
       rfl
      refine pure_ (i := 5) (N := some 47) (v := ?_) (a' := ?_) #[true, true, true, true, true, true, false, false, false, false, false] rfl rfl (by kernel_rfl) (fun _ _ _ h => h) (Or.inl ⟨by rfl, ?_⟩) ?_ ?_
      rotate_left
      ·intro w'
       go_simp
       with_reducible rfl
      rotate_left
      ·simp only [Act.put, sAx, sZx, sSx, i64_w, i32_w]
       rfl
      refine take_ (i := 6) (N := some 48) (v := ?_) (a' := ?_) #[true, true, true, true, true, true, true, false, false, false, false] rfl rfl (by kernel_rfl) (fun _ _ _ h => h) (Or.inl ⟨by rfl, ?_⟩) hHeld ?_ ?_
      rotate_left
      ·rintro w' ⟨s0, s1, s2, s3, s4, s5⟩
       go_simp
       with_reducible rfl
      rotate_left
      ·simp only [Act.put, sAx, sZx, sSx, i64_w, i32_w]
       rfl
      refine one_ (i := 7) (N := some 49) #[true, true, true, true, true, true, true, true, false, false, false] rfl rfl (by kernel_rfl) (by decide) (fun K hK => ?_)
      refine value_ (w1 := ?_) (v := ?_) (by rfl) rfl ?_ ?_
      rotate_left 2
      ·go_simp
       constructor
       ·rfl
       ·rfl
      refine hK.out _ _ ⟨(blk_cell (blk_alloc HS2.out.p _) 1).trans rfl, (blk_cell (blk_alloc HS2.out.o _) 1).trans rfl, HQ0.out.at (below_alloc HS2.out.bel _), HQ1.out.at (below_alloc HS2.out.bel _), HQ2.out.at (below_alloc HS2.out.bel _), HQ3.out.at (below_alloc HS2.out.bel _)⟩ (fun hHeld => ?_)
      clear hK K
      refine norm_ (a' := ?_) ?_ ?_
      rotate_left
      ·show Act.put _ (some 49) _ = _
       simp only [Act.put, sAx, sZx, sSx, i64_w, i32_w]
       rfl
      refine one_ (i := 8) (N := some 50) #[true, true, true, true, true, true, true, true, true, false, false] rfl rfl (by kernel_rfl) (by decide) (fun K hK => ?_)
      refine Kd.N_append_step k25 (w0 := W) W.heap.size (by rfl) (.tmp 43) (.tmp 49) 23 25 (.agg #[(.int .i64 0), (.string ⟨#[]⟩), (.slice none 0 0), (.slice none 0 0)]) 72 rfl Tryd.underlying23 info25 rfl (by decide) (by omega) (.slice Ai li.length ci) li (rd_T25 ys k) [.int .i64 (rd_T25 ys k).f0, .string (rd_T25 ys k).f1, .slice B2 (rd_T25 ys k).f2.length k2, .slice B3 (rd_T25 ys k).f3.length k3] (fun k_ => okS W.heap.size Bp (W.heap.size + 1) ok k_ ∧ some k_ ≠ (Value.slice A1 (ln.length + 1) c1).ownBlock) (fun k_ => ok k_ ∧ k_ < W.heap.size) rfl rfl ?aP ?aK ?aF ?aO ?aB ?aS ?aL ?_
      (case aP => exact HFK.out _ HS2.out.bel)
      (case aK => exact (fun k_ hk => ⟨⟨Or.inl hk, fun he => by have := Kd.R_base HS2.out.names k_ he.symm; have := hk.2; omega⟩, fun he => by have := Kd.N_base HS2.out.items k_ he.symm; have := hk.2; omega⟩))
      (case aF => exact (fun k_ hk => ⟨Or.inr ⟨by have := HS2.out.ltB; omega, by have := lt_of_block HS2.out.p; omega, by have := lt_of_block HS2.out.r; omega⟩, fun he => by have := Kd.R_lt HS2.out.names k_ he.symm; omega⟩))
      (case aO => exact HS2.out.items)
      (case aB => exact HS2.out.bel)
      (case aS => exact HS2.out.ltB)
      (case aL => have := HL2.out; omega)
      intro v2 w9 ho hb hg hat
      obtain ⟨A4, c4, e4⟩ := Kd.N_slice ho
      subst e4
      have b1 := am (blk_grown HS2.out.p hg (Kd.N_ne HS2.out.items HS2.out.p (by decide)))
      have b2 := am (blk_grown HS2.out.o hg (Kd.N_ne HS2.out.items HS2.out.o (by decide)))
      have hs3 := HS2.out.item HG.out ho hb hg
      rw [List.length_append, List.length_singleton] at hs3
      have HS3 := am hs3
      clear hs3
      have HB6 := am hb
      have x3 := (blk_cell b1.out 1).trans rfl
      have xf := blk_frozen b1.out 1
      clear ho hb hg hat
      refine hK.out _ _ ⟨(blk_cell b1.out 1).trans rfl, (blk_cell b2.out 1).trans rfl, HQ0.out.at HB6.out, HQ1.out.at HB6.out, HQ2.out.at HB6.out, HQ3.out.at HB6.out⟩ (fun hHeld => ?_)
      clear hK K
      refine norm_ (a' := ?_) ?_ ?_
      rotate_left
      ·show Act.put _ (some 50) _ = _
       simp only [Act.put, sAx, sZx, sSx, i64_w, i32_w]
       rfl
      refine pure_ (i := 9) (N := some 51) (v := ?_) (a' := ?_) #[true, true, true, true, true, true, true, true, true, true, false] rfl rfl (by kernel_rfl) (fun _ _ _ h => h) (Or.inl ⟨by rfl, ?_⟩) ?_ ?_
      rotate_left
      ·intro w'
       go_simp
       with_reducible rfl
      rotate_left
      ·simp only [Act.put, sAx, sZx, sSx, i64_w, i32_w]
       rfl
      refine last_ (i := 10) (N := none) #[true, true, true, true, true, true, true, true, true, true, true] rfl rfl (by kernel_rfl) (by decide) (fun K hK => ?_)
      refine skip_ (w1 := ?_) (by rfl) rfl ?_ ?_
      rotate_left
      ·go_simp
       rfl
      refine hK.out _ _ ?_
      clear hK K
      refine done_ (by kernel_rfl) ?_
      try go_wp2
      go_roundg g
      case measure => omega
      case rel => exact ⟨i + 1, _, _, (by first | exact congrArg (Value.int .i64) HWN.out | exact congrArg (Value.int .i64) (show (i : Int) + 1 = ((i + 1 : Nat) : Int) by omega)), by omega, by omega, ⟨by rw [← HLN.out, ← HLI.out]; exact HS3.out⟩⟩
    ·have p2 : ((i : Int) < (ns.length : Int)) = False := eq_false (by omega)
     have hl : l.length = ns.length := by rw [HP.out.length_eq, List.length_range]
     have HLL := am (sorted_lists HNY.out HP.out HO.out)
     have HLE := am (show (l.map (fun k => nmAt ns k)).length = (l.map (fun k : Nat => rd_T25 ys (k : Int))).length by simp)
     have e0 : l.take i = l := List.take_of_length_le (by omega)
     rw [e0] at HS
     clear e0 hl HP HO HC
     generalize l.map (fun k => nmAt ns k) = ln at HS HLL HLE
     generalize l.map (fun k : Nat => rd_T25 ys (k : Int)) = li at HS HLL HLE
     obtain ⟨An, cn, en⟩ := Kd.R_slice HS.out.names
     subst en
     obtain ⟨Ai, ci, ei⟩ := Kd.N_slice HS.out.items
     subst ei
     have x0 := (blk_cell HS.out.p 0).trans rfl
     have x1 := (blk_cell HS.out.p 1).trans rfl
     have x2 := (blk_cell HS.out.r 0).trans rfl
     have x3 := (blk_cell HS.out.r 1).trans rfl
     have x4 := blk_frozen HS.out.r 0
     have x5 := blk_frozen HS.out.r 1
     have HE := am (HS.out.fin HG.out)
     go_wp2
     refine bodyPost_ret (results_cell_row rfl _ _ (W.heap.size + 1) 84 #[.slice An ln.length cn, .slice Ai li.length ci] (0, 0) _ rfl HE.out.2.1 Tryd.underlying84 rfl (by kernel_rfl)) rfl ?_
     exact ⟨An, Ai, cn, ci, ln, li, rfl, HE.out.1, HLE.out, HE.out.2.2.1, HE.out.2.2.2.1, HLL.out.1, HLL.out.2, HE.out.2.2.2.2.1, HE.out.2.2.2.2.2⟩
end Go.Proofs.YtaalajhmfdcalaaDoor.X
namespace Go.Proofs.YtaalajhmfdcalaaDoor.X
open Go.RowKit Go.Lib Go.Proofs.YtaalajhmfdcalaaDoorW.PrintWords Go.Proofs.YtaalajhmfdcalaaDoorW.PrintLast Go.Proofs.YtaalajhmfdcalaaDoorW.PrintMore
theorem Sm.ok {canon : Bool} {a b : St} (h : Sm canon a b) (hb : b.e = 0) : a = b := by
 rcases h with h | ⟨_, _, h⟩
 ·exact h
 ·exact absurd hb h
theorem wr_at {Wd : Nat} {free : Bool} {W : World} (h : W.heap[Wd]? = some (.cells #[.slice none 0 0, .bool free, .int .i64 0] 60 (0, 0))) : Wr Wd free ⟨[], 0⟩ (.slice none 0 0) W :=
 ⟨h, Own.nil _ _ (by have := lt_of_block h; omega)⟩
theorem writer_val {free canon : Bool} {v : J} {A2 A3 : Option Addr} {c2 c3 Wd : Nat} {W w : World} (hsm : SmJ 32 v) (hln : canon = true → LnJ 32 v) (hfit : Fit free ⟨[], 0⟩ (wtJ 32 v)) (hC2 : Kd.string.C W A2 v.f2.length v.f2) (hc2 : v.f2.length ≤ c2) (hC3 : k25.C W A3 v.f3.length v.f3) (hc3 : v.f3.length ≤ c3) (hG : GLw W) (hT : Tabs W)
  (hb : Below W.heap.size W w) (hWd : W.heap.size ≤ Wd) (hw : w.heap[Wd]? = some (.cells #[.slice none 0 0, .bool free, .int .i64 0] 60 (0, 0))) :
  Calls Tryd.prog 33 #[ptr Wd, jVal v.f0 v.f1 A2 A3 v.f2.length c2 v.f3.length c3, .int .i64 0, .bool canon] w (VEnds Wd free canon ⟨[], 0⟩ (.slice none 0 0) w (wtJ 32 v) (valW free canon 32 v ⟨[], 0⟩)) := by
 have hvo := wvalue_ok free canon (fun _ => sorted_calls) 32 (Nat.le_refl _)
 rw [show (32 : Int) - ((32 : Nat) : Int) = 0 by decide] at hvo
 exact hvo Wd ⟨[], 0⟩ (.slice none 0 0) w v A2 A3 c2 c3 (wr_at hw) hfit hsm hln
  (Kd.F_mono (Kd.F_below (Kd.C_F Kd.heap_string hC2) hb) (fun k hk => ⟨by omega, by simp [Value.ownBlock]⟩)) hc2
  (Kd.F_mono (Kd.F_below (Kd.C_F heap25 hC3) hb) (fun k hk => ⟨by omega, by simp [Value.ownBlock]⟩)) hc3
  (fun W' hb2 => have hb' : Below W.heap.size W W' := hb.trans (hb2.mono hWd); ⟨hG.below hb', hT.bel hb'⟩)
def canonS (v : J) : St := valW false true 32 v ⟨[], 0⟩
def canonB (v : J) : ByteArray := if (printS v).e = 0 then bs (canonS v).out else ⟨#[]⟩
set_option maxRecDepth 1000000 in
set_option maxHeartbeats 4000000 in
theorem canon_calls (f0 : Int) (f1 : ByteArray) (l2 : List ByteArray) (l3 : List J) (A2 A3 : Option Addr) (c2 c3 : Nat) (W : World) (hsm : SmJ 32 ⟨f0, f1, l2, l3⟩) (hln : LnJ 32 ⟨f0, f1, l2, l3⟩) (hce : (printS ⟨f0, f1, l2, l3⟩).e = 0 → (canonS ⟨f0, f1, l2, l3⟩).e = 0) (hC2 : Kd.string.C W A2 l2.length l2) (hc2 : l2.length ≤ c2) (hC3 : k25.C W A3 l3.length l3) (hc3 : l3.length ≤ c3) (hG : GLw W) (hT : Tabs W) :
  Calls Tryd.prog 20 #[jVal f0 f1 A2 A3 l2.length c2 l3.length c3] W fun x W' => x = .returned (.tuple #[.string (canonB ⟨f0, f1, l2, l3⟩), .int .i64 (printS ⟨f0, f1, l2, l3⟩).e]) ∧ Below W.heap.size W W' := by
 have hpr := fun (b : Obj) => print_calls f0 f1 l2 l3 A2 A3 c2 c3 (W.alloc b) hsm (Kd.C_alloc hC2 b) hc2 (Kd.C_alloc hC3 b) hc3 (hG.below (below_alloc (Below.refl _ _) b)) (hT.bel (below_alloc (Below.refl _ _) b))
 have hval := fun (w : World) (hb : Below W.heap.size W w) => writer_val (free := false) (canon := true) (v := ⟨f0, f1, l2, l3⟩) (Wd := w.heap.size) (w := w.alloc (.cells #[.slice none 0 0, .bool false, .int .i64 0] 60)) hsm (fun _ => hln) (fit_new _) hC2 hc2 hC3 hc3 hG hT (below_alloc hb _) hb.size (heap_alloc_new _ _)
 have HPR := am hpr
 have HV := am hval
 clear hpr hval hsm hln hC2 hC3 hG hT hc2 hc3
 have HS := am (show canonS ⟨f0, f1, l2, l3⟩ = valW false true 32 ⟨f0, f1, l2, l3⟩ ⟨[], 0⟩ from rfl)
 have HCB := am (show canonB ⟨f0, f1, l2, l3⟩ = if (printS ⟨f0, f1, l2, l3⟩).e = 0 then bs (canonS ⟨f0, f1, l2, l3⟩).out else ⟨#[]⟩ from rfl)
 generalize printS ⟨f0, f1, l2, l3⟩ = ps at *
 generalize printB ⟨f0, f1, l2, l3⟩ = pb at *
 generalize canonS ⟨f0, f1, l2, l3⟩ = cs at *
 generalize canonB ⟨f0, f1, l2, l3⟩ = cb at *
 by_cases he : ps.e = 0
 ·have e0 : ((ps.e : Int) != 0) = false := by rw [he]; rfl
  have HP := am (show cb = bs cs.out by rw [HCB.out, if_pos he])
  have HE := am he
  have HCE := am (hce he)
  clear he hce
  go_enter Tryd.func20, Tryd.ntmps20
  go_wp2_with (first | (go_at_call 17; (with_reducible refine (HPR.out _).mono ?_); rintro e w1 ⟨rfl, hb⟩; have HB1 := am (show Below W.heap.size W w1 from (below_alloc (Below.refl _ _) _).trans (hb.mono (by rw [World.size_alloc]; omega))); have BX := am (show w1.heap[W.heap.size]? = some (.cells #[.int .i64 f0, .string f1, .slice A2 l2.length c2, .slice A3 l3.length c3] 25 (0, 0)) from (hb.block _ (by rw [World.size_alloc]; omega)).trans (heap_alloc_new W _)); clear hb; have y0 : (w1.alloc (.cells #[.slice none 0 0, .bool false, .int .i64 0] 60)).cell? ⟨W.heap.size, 0, none⟩ = some (.int .i64 f0) := (blk_cell (Below.alloc_at BX.out) 0).trans rfl; have y1 : (w1.alloc (.cells #[.slice none 0 0, .bool false, .int .i64 0] 60)).cell? ⟨W.heap.size, 1, none⟩ = some (.string f1) := (blk_cell (Below.alloc_at BX.out) 1).trans rfl; have y2 : (w1.alloc (.cells #[.slice none 0 0, .bool false, .int .i64 0] 60)).cell? ⟨W.heap.size, 2, none⟩ = some (.slice A2 l2.length c2) := (blk_cell (Below.alloc_at BX.out) 2).trans rfl; have y3 : (w1.alloc (.cells #[.slice none 0 0, .bool false, .int .i64 0] 60)).cell? ⟨W.heap.size, 3, none⟩ = some (.slice A3 l3.length c3) := (blk_cell (Below.alloc_at BX.out) 3).trans rfl) | (go_at_call 33; (with_reducible refine (HV.out w1 HB1.out).mono ?_); rintro e w2 ⟨rfl, st1, sl1, hs, _, hw, ho⟩; have hs' := hs.ok (by rw [← HS.out]; exact HCE.out); rw [← HS.out] at hs'; subst hs'; have c0' := (blk_cell hw.blk 0).trans rfl; have hcv := own_string hw.own; have HB2 := am (show Below W.heap.size W w2 from HB1.out.trans ((below_alloc (Below.refl _ _) _).trans (ho.low.mono (Nat.le_refl _)) |>.mono HB1.out.size)); clear hs hw ho; dsimp at c0'))
  go_ret2
  rw [HP.out, HE.out]
  exact ⟨rfl, by repeat (first | exact HB2.out | apply below_drewN | apply below_drew1)⟩
 ·have e0 : ((ps.e : Int) != 0) = true := by
   have : ¬ (ps.e : Int) = 0 := by omega
   simp only [bne_iff_ne, ne_eq]
   exact this
  have HP := am (show cb = ⟨#[]⟩ by rw [HCB.out, if_neg he])
  clear he hce
  go_enter Tryd.func20, Tryd.ntmps20
  go_wp2_with (go_at_call 17; (with_reducible refine (HPR.out _).mono ?_); rintro e w1 ⟨rfl, hb⟩; have HB1 := am (show Below W.heap.size W w1 from (below_alloc (Below.refl _ _) _).trans (hb.mono (by rw [World.size_alloc]; omega))); have BX := am (show w1.heap[W.heap.size]? = some (.cells #[.int .i64 f0, .string f1, .slice A2 l2.length c2, .slice A3 l3.length c3] 25 (0, 0)) from (hb.block _ (by rw [World.size_alloc]; omega)).trans (heap_alloc_new W _)); clear hb; have y0 : (w1.alloc (.cells #[.slice none 0 0, .bool false, .int .i64 0] 60)).cell? ⟨W.heap.size, 0, none⟩ = some (.int .i64 f0) := (blk_cell (Below.alloc_at BX.out) 0).trans rfl; have y1 : (w1.alloc (.cells #[.slice none 0 0, .bool false, .int .i64 0] 60)).cell? ⟨W.heap.size, 1, none⟩ = some (.string f1) := (blk_cell (Below.alloc_at BX.out) 1).trans rfl; have y2 : (w1.alloc (.cells #[.slice none 0 0, .bool false, .int .i64 0] 60)).cell? ⟨W.heap.size, 2, none⟩ = some (.slice A2 l2.length c2) := (blk_cell (Below.alloc_at BX.out) 2).trans rfl; have y3 : (w1.alloc (.cells #[.slice none 0 0, .bool false, .int .i64 0] 60)).cell? ⟨W.heap.size, 3, none⟩ = some (.slice A3 l3.length c3) := (blk_cell (Below.alloc_at BX.out) 3).trans rfl)
  go_ret2
  rw [HP.out]
  exact ⟨rfl, by repeat (first | exact HB1.out | apply below_drewN | apply below_drew1)⟩
def sameS (v : J) : St := valW true true 32 v ⟨[], 0⟩
def sameB (a b : J) : Bool := decide ((sameS a).e = 0) && (decide ((sameS b).e = 0) && decide ((sameS a).out = (sameS b).out))
structure Q2 (W : World) (va vb : St) (st1 st2 : St) (sl1 sl2 : Value) (w : World) : Prop where
 sm1 : Sm true st1 va
 sm2 : Sm true st2 vb
 bel : Below W.heap.size W w
 x : Wr (W.heap.size + 1 + 1) true st1 sl1 w
 y : Wr (W.heap.size + 1 + 1 + 1) true st2 sl2 w
def lnB : Nat → J → Bool
 | 0, _ => true
 | r + 1, v => decide (v.f3.length ≤ 1000000) && v.f3.all (fun y => lnB r y)
theorem lnB_iff : ∀ (r : Nat) (v : J), lnB r v = true ↔ LnJ r v
 | 0, v => by simp [lnB, LnJ]
 | r + 1, v => by
  simp only [lnB, LnJ, Bool.and_eq_true, decide_eq_true_eq, List.all_eq_true]
  refine and_congr Iff.rfl ⟨fun h y hy => (lnB_iff r y).1 (h y hy), fun h y hy => (lnB_iff r y).2 (h y hy)⟩
def canOK (v : J) : Bool := smB 32 v && (lnB 32 v && (decide ((printS v).e ≠ 0) || decide ((canonS v).e = 0)))
def jtext_Canon.f (a0_0 : Int) (a0_1 : ByteArray) (l0_2 : List ByteArray) (l0_3 : List (S25)) : Option (ByteArray × Int) :=
 if canOK ⟨a0_0, a0_1, l0_2, l0_3⟩ = true then some (canonB ⟨a0_0, a0_1, l0_2, l0_3⟩, ((printS ⟨a0_0, a0_1, l0_2, l0_3⟩).e : Int)) else none
theorem jtext_Canon.calls (a0_0 : Int) (a0_1 : ByteArray) (A0_2 : Option Addr) (c0_2 : Nat) (l0_2 : List ByteArray) (A0_3 : Option Addr) (c0_3 : Nat) (l0_3 : List (S25)) (r1 : ByteArray) (r2 : Int) (w : World) (hr0_2 : Kd.C Kd.string w A0_2 l0_2.length l0_2) (hc0_2 : l0_2.length ≤ c0_2) (hr0_3 : Kd.C k25 w A0_3 l0_3.length l0_3) (hc0_3 : l0_3.length ≤ c0_3) (hG : GL w) (h : jtext_Canon.f a0_0 a0_1 l0_2 l0_3 = some (r1, r2)) :
  Calls Tryd.prog 20 #[.agg #[.int .i64 a0_0, .string a0_1, .slice A0_2 l0_2.length c0_2, .slice A0_3 l0_3.length c0_3]] w fun e w' => e = .returned (.tuple #[.string r1, .int .i64 r2]) ∧ Below w.heap.size w w' := by
 unfold jtext_Canon.f at h
 split at h
 ·rename_i hs
  simp only [Option.some.injEq, Prod.mk.injEq] at h
  obtain ⟨rfl, rfl⟩ := h
  simp only [canOK, Bool.and_eq_true, Bool.or_eq_true, decide_eq_true_eq] at hs
  exact canon_calls a0_0 a0_1 l0_2 l0_3 A0_2 A0_3 c0_2 c0_3 w ((smB_iff 32 _).1 hs.1) ((lnB_iff 32 _).1 hs.2.1) (fun h => hs.2.2.elim (fun h2 => absurd h h2) id) hr0_2 hc0_2 hr0_3 hc0_3 hG.words hG.tabs
 ·cases h
def samOK (v : J) : Bool := smB 32 v && (lnB 32 v && decide (wtJ 32 v ≤ 140737488355328))
def jtext_Same.f (a0_0 : Int) (a0_1 : ByteArray) (l0_2 : List ByteArray) (l0_3 : List (S25)) (a1_0 : Int) (a1_1 : ByteArray) (l1_2 : List ByteArray) (l1_3 : List (S25)) : Option Bool :=
 if samOK ⟨a0_0, a0_1, l0_2, l0_3⟩ && samOK ⟨a1_0, a1_1, l1_2, l1_3⟩ = true then some (sameB ⟨a0_0, a0_1, l0_2, l0_3⟩ ⟨a1_0, a1_1, l1_2, l1_3⟩) else none
end Go.Proofs.YtaalajhmfdcalaaDoor.X
namespace Go.Proofs.YtaalajhmfdcalaaDoor.X
open Go.RowKit Go.Lib Go.Proofs.YtaalajhmfdcalaaDoorW.PrintWords
structure Fits (v : J) : Prop where
 ok : OKJ 32 v
 len : (encJ 32 v).length ≤ 16384
theorem fits_of {v : J} (h : (printS v).e = 0) : Fits v := ⟨(printS_fit v h).1, printS_len v h⟩
theorem Fits.printS {v : J} (h : Fits v) : printS v = ⟨encJ 32 v, 0⟩ := by
 unfold X.printS
 rw [valW_yes false 32 v ⟨[], 0⟩ h.ok rfl (fun _ => by have := h.len; show 0 + _ ≤ _; omega)]
 rfl
theorem Fits.print_e {v : J} (h : Fits v) : (X.printS v).e = 0 := by rw [h.printS]
theorem Fits.printB {v : J} (h : Fits v) : printB v = bs (encJ 32 v) := by unfold X.printB; rw [h.printS, if_pos rfl]
theorem Fits.sort {v : J} (h : Fits v) : Fits (sJ 32 v) := ⟨OKJ_sJ 32 v h.ok, by rw [encJ_sJ_len]; exact h.len⟩
theorem canonS_eq (v : J) : canonS v = printS (sJ 32 v) := canon_sort false 32 v ⟨[], 0⟩
theorem Fits.canonS {v : J} (h : Fits v) : canonS v = ⟨encJ 32 (sJ 32 v), 0⟩ := by rw [canonS_eq, h.sort.printS]
theorem Fits.canonB {v : J} (h : Fits v) : canonB v = bs (encJ 32 (sJ 32 v)) := by unfold X.canonB; rw [h.printS, if_pos rfl, h.canonS]
theorem Fits.sameS {v : J} (h : Fits v) : sameS v = ⟨encJ 32 (sJ 32 v), 0⟩ := by
 unfold X.sameS
 rw [canon_sort, valW_yes true 32 (sJ 32 v) ⟨[], 0⟩ h.sort.ok rfl (fun hf => by cases hf)]
 rfl
theorem Fits.wt {v : J} (h : Fits v) : wtJ 32 v ≤ 1064960 := by
 have := wt_enc 32 v h.ok
 have := h.len
 omega
theorem lnB_of {B L : Nat} (hL : L ≤ 1000000) : ∀ (r : Nat) {v : J}, Bd B L v → lnB r v = true
 | 0, v, h => rfl
 | r + 1, v, h => by
  cases h with
  | mk f0 f1 f2 f3 _ _ _ h2 h3 =>
   unfold lnB
   simp only [Bool.and_eq_true, decide_eq_true_eq, List.all_eq_true]
   exact ⟨by omega, fun y hy => lnB_of hL r (h3 y hy)⟩
theorem canon_f_ok {B : Nat} (hB : B ≤ 288230376151711743) {v : J} (h : Bd B 10000 v) : jtext_Canon.f v.f0 v.f1 v.f2 v.f3 = some (canonB v, ((printS v).e : Int)) := by
 unfold jtext_Canon.f
 have hc : canOK v = true := by
  unfold canOK
  rw [smB_of hB 32 h, lnB_of (by decide) 32 h, Bool.true_and, Bool.true_and, Bool.or_eq_true, decide_eq_true_eq, decide_eq_true_eq]
  by_cases he : (printS v).e = 0
  ·exact .inr (by rw [(fits_of he).canonS])
  ·exact .inl he
 rw [eta_J, if_pos hc]
theorem canonB_bad {v : J} (h : ¬ (printS v).e = 0) : canonB v = ⟨#[]⟩ := by unfold canonB; rw [if_neg h]
theorem Fits.canon_print {v : J} (h : Fits v) : X.canonB v = X.printB (sJ 32 v) := by rw [h.canonB, h.sort.printB]
end Go.Proofs.YtaalajhmfdcalaaDoor.X
namespace Go.Proofs.YtaalajhmfdcalaaDoor.X
open Go.RowKit Go.Proofs.YtaalajhmfdcalaaDoor.X Go.Proofs.YtaalajhmfdcalaaDoorW.PrintWords Go.Proofs.YtaalajhmfdcalaaDoorW.PrintLast Go.Proofs.YtaalajhmfdcalaaDoorW.PrintMore
attribute [local go_sem] max2_int min2_int max_two min_two max_three min_three max_four min_four   -- for this text's walks alone
set_option linter.unusedVariables false
set_option linter.unusedSimpArgs false
def wicketlaw04_large.f (k : Nat) (a0_0 : Int) (a0_1 : ByteArray) (l0_2 : List ByteArray) (l0_3 : List (S25)) : Option (Bool) := (wicketref04_Parts.f k a0_0 a0_1 l0_2 l0_3 10000).bind fun t179 => (some (decide (t179 > 10000)))
theorem wicketlaw04_large.mono : ∀ a0 a1 a2 a3 k, LeO (wicketlaw04_large.f k a0 a1 a2 a3) (wicketlaw04_large.f (k + 1) a0 a1 a2 a3) := by
 intro a0 a1 a2 a3 k
 unfold wicketlaw04_large.f
 repeat' first
   | (with_reducible exact wicketref04_Parts.mono _ _ _ _ _ _)
   | (with_reducible exact LeO.refl _)
   | (with_reducible exact LeO.none _)
   | (with_reducible refine LeO.ite ?_ ?_)
   | (with_reducible refine LeO.bind ?_ (fun _ => ?_))
   | exact wicketref04_Parts.mono _ _ _ _ _ _
   | exact LeO.none _
   | refine LeO.ite ?_ ?_
   | refine LeO.bind ?_ (fun _ => ?_)
set_option maxHeartbeats 8000000 in
set_option maxRecDepth 100000 in
theorem wicketlaw04_large.calls (k : Nat) (a0_0 : Int) (a0_1 : ByteArray) (A0_2 : Option Addr) (c0_2 : Nat) (l0_2 : List ByteArray) (A0_3 : Option Addr) (c0_3 : Nat) (l0_3 : List (S25)) (r : Bool) (w : World) (hr0_2 : Kd.C Kd.string w A0_2 l0_2.length l0_2) (hc0_2 : l0_2.length ≤ c0_2) (hr0_3 : Kd.C k25 w A0_3 l0_3.length l0_3) (hc0_3 : l0_3.length ≤ c0_3) (h : wicketlaw04_large.f k a0_0 a0_1 l0_2 l0_3 = some r) :
  Calls Tryd.prog 16 #[.agg #[.int .i64 a0_0, .string a0_1, .slice A0_2 l0_2.length c0_2, .slice A0_3 l0_3.length c0_3]] w fun e w' => e = .returned (.bool r) ∧ Below w.heap.size w w' := by
 have hu25 := Tryd.underlying25
 have HR0_2 := am hr0_2
 have HC0_2 := am hc0_2
 clear hr0_2 hc0_2
 have HR0_3 := am hr0_3
 have HC0_3 := am hc0_3
 clear hr0_3 hc0_3
 have HB := am (Below.refl w.heap.size w)
 have H : ((wicketref04_Parts.f k a0_0 a0_1 l0_2 l0_3 10000).bind fun t179 => (some (decide (t179 > 10000)))) = some r := h
 clear h
 replace H := Option.bind_eq_some_iff.mp H
 obtain ⟨t179, A20, H⟩ := H
 replace H : (some (decide (t179 > 10000))) = some r := H
 have A2 := am A20
 clear A20
 obtain rfl := Option.some.inj H
 go_enter Tryd.func16, Tryd.ntmps16
 go_wp2_with (first | ((with_reducible refine gate_dst (N := 1) rfl ?_); refine box_event ?hg (N := 1) ?hd (cs := #[.int .i64 a0_0, .string a0_1, .slice A0_2 l0_2.length c0_2, .slice A0_3 l0_3.length c0_3]) (t := 25) ?hr ?_; (case hd => rfl); (case hg => rfl); (case hr => first | (go_simp; done) | (go_simp; rfl)); intro gb178 hg w3 hbox hb; have n0_ := am (below_step (by repeat (first | (with_reducible first | exact HB.out | apply below_alloc | apply pw_below_drewN | apply below_drew1) | exact HB.out)) hb); have n1_ := am (hbox); have n2_ := am ((by rw [hg]; exact (below_size (by repeat (first | (with_reducible first | exact HB.out | apply below_alloc | apply pw_below_drewN | apply below_drew1) | exact HB.out))) : w.heap.size ≤ gb178)); have n3_ := am ((by rw [hg]; exact (below_size (by repeat (first | (with_reducible first | exact HB.out | apply below_alloc | apply pw_below_drewN | apply below_drew1) | exact HB.out))) : w.heap.size ≤ gb178)); clear HB; have HB := n0_; have BK178 := n1_; have GW178 := n2_; have GE178 := n3_; clear n0_ n1_ n2_ n3_; clear hb hbox hg; have hcz4_0 : w3.cell? ⟨gb178, 0, none⟩ = some (.int .i64 a0_0) := (blk_cell BK178.out 0).trans rfl; have hcz4_1 : w3.cell? ⟨gb178, 1, none⟩ = some (.string a0_1) := (blk_cell BK178.out 1).trans rfl; have hcz4_2 : w3.cell? ⟨gb178, 2, none⟩ = some (.slice A0_2 l0_2.length c0_2) := (blk_cell BK178.out 2).trans rfl; have hcz4_3 : w3.cell? ⟨gb178, 3, none⟩ = some (.slice A0_3 l0_3.length c0_3) := (blk_cell BK178.out 3).trans rfl; have hfz4_0 := blk_frozen BK178.out 0; have hfz4_1 := blk_frozen BK178.out 1; have hfz4_2 := blk_frozen BK178.out 2; have hfz4_3 := blk_frozen BK178.out 3) | ((with_reducible refine gate_callee (f := 32) rfl ?_); refine goesL_ (some 4) rfl rfl Tryd.func32 (by kernel_rfl) rfl #[.agg #[.int .i64 a0_0, .string a0_1, .slice A0_2 l0_2.length c0_2, .slice A0_3 l0_3.length c0_3], .int .i64 10000] rfl (by (try simp only [List.map_toArray, List.map_cons, List.map_nil]); first | done | rfl | (simp only [List.length_drop, List.length_take]; rfl)) ?_; (with_reducible refine (wicketref04_Parts.calls k a0_0 a0_1 _ _ l0_2 _ _ l0_3 10000 t179 _ ?side1 ?side2 ?side3 ?side4 A2.out).mono ?_); (case side1 => repeat (first | exact (Kd.C_below HR0_2.out HB.out) | (with_reducible refine Kd.C_alloc ?_ _) | (with_reducible refine Kd.C_drewN ?_ _) | (with_reducible refine Kd.C_drew ?_))); (case side2 => exact HC0_2.out); (case side3 => repeat (first | exact (Kd.C_below HR0_3.out HB.out) | (with_reducible refine Kd.C_alloc ?_ _) | (with_reducible refine Kd.C_drewN ?_ _) | (with_reducible refine Kd.C_drew ?_))); (case side4 => exact HC0_3.out); rintro e w5 ⟨rfl, hb⟩; refine ⟨_, rfl, ?_⟩; have n0_ := am (blk_below (g := gb178) (o := .cells #[.int .i64 a0_0, .string a0_1, .slice A0_2 l0_2.length c0_2, .slice A0_3 l0_3.length c0_3] 25 (0, 0)) (by (with_reducible repeat (first | refine blk_drewN ?_ _ | refine blk_drew ?_ | refine blk_alloc ?_ _)); exact BK178.out) hb); have n1_ := am (below_step (by repeat (first | (with_reducible first | exact HB.out | apply below_alloc | apply pw_below_drewN | apply below_drew1 | refine below_set ?_ GE178.out) | exact HB.out)) hb); clear BK178; clear HB; have BK178 := n0_; have HB := n1_; clear n0_ n1_; (try clear hb); (try clear hb2); (try clear hk); (try clear hi)))
 go_ret
 exact ⟨by first | rfl | (simp [errW_none, errW_some] <;> rfl) | (simp [*, errW_none, errW_some] <;> rfl), by repeat (first | (with_reducible first | exact HB.out | apply below_alloc | apply pw_below_drewN | apply below_drew1 | refine below_set ?_ GE178.out) | exact HB.out)⟩
end Go.Proofs.YtaalajhmfdcalaaDoor.X
namespace Go.Proofs.YtaalajhmfdcalaaDoor.X
open Go.RowKit Go.Lib Go.Proofs.YtaalajhmfdcalaaDoorW.PrintWords
theorem twin_l0 {L : Nat} (hL : L ≤ 1000000000) (v : J) (hl : v.f3.length ≤ L) (ih : ∀ y, y ∈ v.f3 → ∃ K, ∀ k, K ≤ k → wicketref04_Twin.f k y.f0 y.f1 y.f2 y.f3 = some (y.f0, y.f1, y.f2, y.f3)) :
  ∀ (d i : Nat), i + d = v.f3.length → ∃ K, ∀ k, K ≤ k → wicketref04_Twin.l0 k (i : Int) v.f0 v.f1 v.f2 v.f3 v.f0 v.f1 v.f2 (v.f3.take i) = some (v.f0, v.f1, v.f2, v.f3)
 | 0, i, h => ⟨1, fun k hk => by
   obtain ⟨k, rfl, _⟩ := ge_succ hk
   rw [wicketref04_Twin.l0, if_neg (by omega), List.take_of_length_le (by omega)]⟩
 | d + 1, i, h => by
  obtain ⟨K1, h1⟩ := twin_l0 hL v hl ih d (i + 1) (by omega)
  have hi : i < v.f3.length := by omega
  obtain ⟨K2, h2⟩ := ih _ (List.getElem_mem hi)
  refine ⟨max K1 K2 + 1, fun k hk => ?_⟩
  obtain ⟨k, rfl, hj⟩ := ge_succ hk
  rw [wicketref04_Twin.l0, if_pos (by omega), if_pos (by omega), rd_nat _ _ hi, h2 k (by omega)]
  simp only [Option.bind_some]
  rw [if_pos (by rw [List.length_take]; omega), wrap_id _ (by omega) (by omega)]
  have := h1 k (by omega)
  rw [List.take_succ_eq_append_getElem hi] at this
  have e : (i : Int) + 1 = ((i + 1 : Nat) : Int) := by omega
  rw [e, eta_J]
  exact this
theorem twin_self {B L : Nat} (hL : L ≤ 1000000000) {v : J} (h : Bd B L v) : ∃ K, ∀ k, K ≤ k → wicketref04_Twin.f k v.f0 v.f1 v.f2 v.f3 = some (v.f0, v.f1, v.f2, v.f3) := by
 induction h with
 | mk f0 f1 f2 f3 _ _ h2 h3 _ ih =>
  obtain ⟨K1, h1⟩ := twin_l0 hL ⟨f0, f1, f2, f3⟩ h3 ih f3.length 0 (by show 0 + f3.length = f3.length; omega)
  refine ⟨K1 + 1, fun k hk => ?_⟩
  obtain ⟨k, rfl, hj⟩ := ge_succ hk
  rw [wicketref04_Twin.f]
  simp only [Option.bind_some]
  rw [if_pos (by simp; omega)]
  exact h1 k hj
theorem parts_l0 {B L : Nat} (hL : L ≤ 281474976710656) (v : J) (h3 : v.f3.length ≤ L) (ih : ∀ y, y ∈ v.f3 → ∀ most : Int, 0 ≤ most → most ≤ 1152921504606846976 → ∃ K n, (∀ k, K ≤ k → wicketref04_Parts.f k y.f0 y.f1 y.f2 y.f3 most = some n) ∧ 1 ≤ n ∧ n ≤ most + 1 + L ∧ ∀ M : Nat, n ≤ most → most ≤ M → Bd B M y) (most : Int) (hm0 : 0 ≤ most) (hm : most ≤ 1152921504606846976) :
  ∀ (d i : Nat) (x : Int), i + d = v.f3.length → 1 ≤ x → x ≤ most + 1 + L → ∃ K n, (∀ k, K ≤ k → wicketref04_Parts.l0 k most x (i : Int) v.f0 v.f1 v.f2 v.f3 = some n) ∧ x ≤ n ∧ n ≤ most + 1 + L ∧ ∀ M : Nat, n ≤ most → most ≤ M → x + d ≤ n ∧ ∀ y, y ∈ v.f3.drop i → Bd B M y
 | 0, i, x, h, hx, hx2 => ⟨1, x, fun k hk => by
   obtain ⟨k, rfl, _⟩ := ge_succ hk
   rw [wicketref04_Parts.l0, if_neg (by omega)], Int.le_refl _, hx2, fun M _ _ => ⟨by omega, fun y hy => by rw [List.drop_of_length_le (by omega)] at hy; cases hy⟩⟩
 | d + 1, i, x, h, hx, hx2 => by
  have hi : i < v.f3.length := by omega
  by_cases hxm : x ≤ most
  ·obtain ⟨K2, t, h2, ht1, ht2, ht3⟩ := ih _ (List.getElem_mem hi) (most - x) (by omega) (by omega)
   obtain ⟨K1, n, h1, hn1, hn2, hn3⟩ := parts_l0 hL v h3 ih most hm0 hm d (i + 1) (x + t) (by omega) (by omega) (by omega)
   refine ⟨max K1 K2 + 1, n, fun k hk => ?_, by omega, hn2, fun M hM hM2 => ?_⟩
   ·obtain ⟨k, rfl, hj⟩ := ge_succ hk
    rw [wicketref04_Parts.l0, if_pos (by omega), if_pos hxm, if_pos (by omega), rd_nat _ _ hi, wrap_id (most - x) (by omega) (by omega), h2 k (by omega)]
    simp only [Option.bind_some]
    rw [wrap_id (x + t) (by omega) (by omega), wrap_id _ (by omega) (by omega)]
    exact h1 k (by omega)
   ·obtain ⟨g1, g2⟩ := hn3 M hM hM2
    refine ⟨by omega, fun y hy => ?_⟩
    rw [List.drop_eq_getElem_cons hi] at hy
    rcases List.mem_cons.1 hy with rfl | hy
    ·exact ht3 M (by omega) (by omega)
    ·exact g2 y hy
  ·refine ⟨1, x, fun k hk => ?_, Int.le_refl _, hx2, fun M hM _ => absurd hM hxm⟩
   obtain ⟨k, rfl, _⟩ := ge_succ hk
   rw [wicketref04_Parts.l0, if_pos (by omega), if_neg hxm]
theorem parts_of {B L : Nat} (hL : L ≤ 281474976710656) {v : J} (h : Bd B L v) : ∀ most : Int, 0 ≤ most → most ≤ 1152921504606846976 → ∃ K n, (∀ k, K ≤ k → wicketref04_Parts.f k v.f0 v.f1 v.f2 v.f3 most = some n) ∧ 1 ≤ n ∧ n ≤ most + 1 + L ∧ ∀ M : Nat, n ≤ most → most ≤ M → Bd B M v := by
 induction h with
 | mk f0 f1 f2 f3 g1 g2 h2 h3 _ ih =>
  intro most hm0 hm
  obtain ⟨K, n, k1, k2, k3, k4⟩ := parts_l0 (B := B) hL ⟨f0, f1, f2, f3⟩ h3 ih most hm0 hm f3.length 0 (1 + (f2.length : Int)) (by show 0 + f3.length = f3.length; omega) (by omega) (by omega)
  refine ⟨K + 1, n, fun k hk => ?_, by omega, k3, fun M hM hM2 => ?_⟩
  ·obtain ⟨k, rfl, hj⟩ := ge_succ hk
   rw [wicketref04_Parts.f, wrap_id _ (by show _ ≤ 1 + (f2.length : Int); omega) (by show 1 + (f2.length : Int) ≤ _; omega)]
   exact k1 k hj
  ·obtain ⟨q1, q2⟩ := k4 M hM hM2
   exact .mk f0 f1 f2 f3 g1 g2 (by omega) (by omega) (fun y hy => q2 y (by rw [List.drop_zero]; exact hy))
theorem large_of {B L : Nat} (hL : L ≤ 281474976710656) {v : J} (h : Bd B L v) : ∃ K, (∀ k, K ≤ k → wicketlaw04_large.f k v.f0 v.f1 v.f2 v.f3 = some true) ∨ ((∀ k, K ≤ k → wicketlaw04_large.f k v.f0 v.f1 v.f2 v.f3 = some false) ∧ Bd B 10000 v) := by
 obtain ⟨K, n, h1, h2, h3, h4⟩ := parts_of hL h 10000 (by omega) (by omega)
 refine ⟨K, ?_⟩
 by_cases hn : n ≤ 10000
 ·refine .inr ⟨fun k hk => ?_, h4 10000 hn (by omega)⟩
  unfold wicketlaw04_large.f
  rw [h1 k hk]
  simp only [Option.bind_some]
  rw [decide_eq_false (by omega)]
 ·refine .inl fun k hk => ?_
  unfold wicketlaw04_large.f
  rw [h1 k hk]
  simp only [Option.bind_some]
  rw [decide_eq_true (by omega)]
theorem bytes_ext {a b : ByteArray} (h : a.data.toList = b.data.toList) : a = b := by
 cases a; cases b
 exact congrArg ByteArray.mk (Array.toList_inj.1 h)
def bdB (B L : Nat) (v : J) : Bool := decide (v.f1.size ≤ B) && (v.f2.all (fun s => decide (s.size ≤ B)) && (decide (v.f2.length ≤ L) && (decide (v.f3.length ≤ L) && v.f3.attach.all (fun y => bdB B L y.1))))
termination_by SizeOf.sizeOf v
decreasing_by
 have h1 := List.sizeOf_lt_of_mem y.2
 cases v
 simp only [S25.mk.sizeOf_spec] at h1 ⊢
 omega
theorem bdB_iff (B L : Nat) (v : J) (h : bdB B L v = true) : Bd B L v := by
 cases v with
 | mk f0 f1 f2 f3 =>
  unfold bdB at h
  simp only [Bool.and_eq_true, decide_eq_true_eq, List.all_eq_true, List.mem_attach, forall_const, Subtype.forall] at h
  refine Bd.mk f0 f1 f2 f3 h.1 h.2.1 h.2.2.1 h.2.2.2.1 (fun y hy => ?_)
  exact bdB_iff B L y (h.2.2.2.2 y hy)
termination_by SizeOf.sizeOf v
decreasing_by
 have h1 := List.sizeOf_lt_of_mem hy
 subst_vars
 simp only [S25.mk.sizeOf_spec]
 omega
end Go.Proofs.YtaalajhmfdcalaaDoor.X
namespace Go.Proofs.YtaalajhmfdcalaaDoor.X
open Go.RowKit Go.Lib Go.Proofs.YtaalajhmfdcalaaDoorW.PrintWords Go.Proofs.YtaalajhmfdcalaaDoorW.PrintLast Go.Proofs.YtaalajhmfdcalaaDoorW.PrintMore
abbrev Sts (s : Int) : Prop := s = 0 ∨ s = 1 ∨ s = 2 ∨ s = 3 ∨ s = 4 ∨ s = 5 ∨ s = 6 ∨ s = 7 ∨ s = 8
def doneZ (s : Int) : Bool := s == 2 || (s == 3 || (s == 5 || s == 8))
def litR : List UInt8 → Int → Bool
 | [], s => doneZ s
 | c :: l, s => if stepZ s c.toNat < 0 then false else litR l (stepZ s c.toNat)
theorem class_of (c : Int) : c = 43 ∨ c = 45 ∨ c = 46 ∨ c = 48 ∨ c = 69 ∨ c = 101 ∨ (48 < c ∧ c ≤ 57) ∨ (c < 48 ∧ c ≠ 43 ∧ c ≠ 45 ∧ c ≠ 46) ∨ (57 < c ∧ c ≠ 69 ∧ c ≠ 101) := by omega
theorem stepZ_range (s c : Int) : stepZ s c = -1 ∨ (1 ≤ stepZ s c ∧ stepZ s c ≤ 8) := by
 unfold stepZ
 (repeat' split) <;> omega
theorem sts_step (s c : Int) (h : ¬ stepZ s c < 0) : Sts (stepZ s c) := by
 have := stepZ_range s c
 omega
theorem drop_at (s : ByteArray) (i : Nat) (h : i < s.size) : ∃ u : UInt8, s.data.toList.drop i = u :: s.data.toList.drop (i + 1) ∧ ∀ h : i < s.size, s[i]'h = u := by
 have hl : i < s.data.toList.length := by rw [size_data]; exact h
 exact ⟨s.data.toList[i], List.drop_eq_getElem_cons hl, fun _ => rfl⟩
theorem done_calls (s : Int) (w : World) (hs : Sts s) : Calls Tryd.prog 72 #[.int .i64 s] w fun e w' => e = .returned (.bool (doneZ s)) ∧ w' = w := by
 rcases hs with rfl | rfl | rfl | rfl | rfl | rfl | rfl | rfl | rfl
 all_goals (
  go_enter Tryd.func72, Tryd.ntmps72
  go_wp2
  go_ret
  exact ⟨rfl, rfl⟩)
set_option maxRecDepth 1000000 in
set_option maxHeartbeats 4000000 in
theorem lit_calls (s : ByteArray) (w : World) (hsz : s.size ≤ 4611686018427387904) : Calls Tryd.prog 59 #[.string s] w fun e w' => e = .returned (.bool (litR s.data.toList 0)) ∧ w' = w := by
 go_enter Tryd.func59, Tryd.ntmps59
 go_wp2
 go_loopg [3, 4] (s.size + 1) (fun g v3 v4 wr => ∃ (i : Nat) (st : Int), v3 = .int .i64 st ∧ v4 = .int .i64 (i : Int) ∧ i ≤ s.size ∧ s.size + 1 ≤ i + g ∧ wr = w ∧ Aside0 (Sts st) ∧ Aside0 (litR s.data.toList 0 = litR (s.data.toList.drop i) st))
 case atStart => exact ⟨0, 0, rfl, rfl, by omega, by omega, rfl, ⟨.inl rfl⟩, ⟨by rw [List.drop_zero]⟩⟩
 case round =>
  obtain ⟨i, st, rfl, rfl, hi, hg, rfl, HST, HL⟩ := hrel
  by_cases hlt : i < s.size
  ·cases gk with
   | zero => omega
   | succ g =>
    have p1 : (0 ≤ (i : Int)) = True := eq_true (by omega)
    have p2 : ((i : Int) < (s.size : Int)) = True := eq_true (by omega)
    obtain ⟨u, hu, hx⟩ := drop_at s i hlt
    have hwn := wrap_next i s.size hlt (by omega)
    have HWN := am hwn
    clear hwn
    have HCL := am (class_of (u.toNat : Int))
    have HD := am hu
    clear hu
    by_cases hn : stepZ st (u.toNat : Int) < 0
    ·have hn1 : decide (stepZ st (u.toNat : Int) < 0) = true := decide_eq_true hn
     have HF := am (show litR s.data.toList 0 = false by rw [HL.out, HD.out, litR, if_pos hn])
     go_wp2_with (go_at_call 71; (with_reducible refine (step_calls st (u.toNat : Int) _ HST.out HCL.out).mono ?_); rintro e w1 ⟨rfl, rfl⟩)
     go_ret
     exact ⟨by rw [HF.out]; rfl, rfl⟩
    ·have hn1 : decide (stepZ st (u.toNat : Int) < 0) = false := decide_eq_false hn
     have HF := am (show litR s.data.toList 0 = litR (s.data.toList.drop (i + 1)) (stepZ st (u.toNat : Int)) by rw [HL.out, HD.out, litR, if_neg hn])
     have HS2 := am (sts_step _ _ hn)
     go_wp2_with (go_at_call 71; (with_reducible refine (step_calls st (u.toNat : Int) _ HST.out HCL.out).mono ?_); rintro e w1 ⟨rfl, rfl⟩)
     go_roundg g
     case measure => omega
     case rel => exact ⟨i + 1, _, rfl, (by first | exact congrArg (Value.int .i64) HWN.out | exact congrArg (Value.int .i64) (show (i : Int) + 1 = ((i + 1 : Nat) : Int) by omega)), by omega, by omega, rfl, HS2, HF⟩
  ·have p2 : ((i : Int) < (s.size : Int)) = False := eq_false (by omega)
   have HF := am (show litR s.data.toList 0 = doneZ st by rw [HL.out, List.drop_eq_nil_of_le (by rw [size_data]; omega), litR])
   go_wp2_with (go_at_call 72; (with_reducible refine (done_calls st _ HST.out).mono ?_); rintro e w1 ⟨rfl, rfl⟩)
   go_ret
   exact ⟨by rw [HF.out]; rfl, rfl⟩
end Go.Proofs.YtaalajhmfdcalaaDoor.X
