/- The texts of this work, put together: K36, K37, K38, K39, K40, E0, E1, M9, Kb, Kq, Qe, E8, E9, L0. -/
import Derived.Test.YtpdelcbkcebkpaaGreatDoorAq3
import Derived.Test.YtpdelcbkcebkpaaGreatDoorAq2
import Derived.Test.YtpdelcbkcebkpaaGreatDoorAq1
import Derived.Test.YtpdelcbkcebkpaaGreatDoorAq0
set_option linter.unusedVariables false
set_option linter.unusedSimpArgs false
namespace Go.Proofs.YtpdelcbkcebkpaaGreatDoor.X
open Go.RowKit Go.Lib Go.Proofs.YtpdelcbkcebkpaaGreatDoorW.PrintWords Go.Proofs.YtpdelcbkcebkpaaGreatDoorW.PrintLast Go.Proofs.YtpdelcbkcebkpaaGreatDoorW.PrintMore
def Gl (Wd : Nat) (W : World) : Prop := ∀ W', Below Wd W W' → GLw W' ∧ Tabs W'
theorem Gl.on {Wd : Nat} {sl sl' : Value} {W W' : World} (h : Gl Wd W) (ho : WrOn Wd sl sl' W W') : Gl Wd W' := fun W2 h2 => h W2 (ho.low.trans h2)
theorem Gl.below {Wd : Nat} {W W' : World} (h : Gl Wd W) (hb : Below W.heap.size W W') (hW : Wd ≤ W.heap.size) : Gl Wd W' := fun W2 h2 => h W2 ((hb.mono hW).trans h2)
theorem Gl.words {Wd : Nat} {W : World} (h : Gl Wd W) : GLw W := (h W (Below.refl _ _)).1
theorem Gl.tabs {Wd : Nat} {W : World} (h : Gl Wd W) : Tabs W := (h W (Below.refl _ _)).2
def okW (Wd : Nat) (sl : Value) (k : Nat) : Prop := k ≠ Wd ∧ some k ≠ sl.ownBlock
theorem F_on {α : Type} {d : Kd α} {Wd n : Nat} {sl sl' : Value} {W W' : World} {A : Option Addr} {xs : List α} (h : Kd.F d W (okW Wd sl) A n xs) (ho : WrOn Wd sl sl' W W') : Kd.F d W' (okW Wd sl') A n xs :=
 Kd.F_mono (Kd.F_step (Kd.F_bound h) (fun k hk hlt => ho.kept k hlt hk.1.1 hk.1.2)) (fun k hk => ⟨hk.1.1, ho.ne hk.2 hk.1.2⟩)
def VEnds (Wd : Nat) (free canon : Bool) (st : St) (sl : Value) (W : World) (wt : Nat) (tg : St) (x : Ending) (W' : World) : Prop :=
 x = .returned (.tuple #[]) ∧ ∃ st' sl', Sm canon st' tg ∧ (∀ n, Fit free st (wt + n) → Fit free st' n) ∧ Wr Wd free st' sl' W' ∧ WrOn Wd sl sl' W W'
theorem VEnds.of {Wd : Nat} {free canon : Bool} {st st' tg : St} {sl sl' : Value} {W w0 w1 : World} {wt : Nat} (hb : Below W.heap.size W w0) (hW : Wd ≤ W.heap.size) (ho : WrOn Wd sl sl' w0 w1) (hw : Wr Wd free st' sl' w1) (hs : Sm canon st' tg) (hf : ∀ n, Fit free st (wt + n) → Fit free st' n) :
  VEnds Wd free canon st sl W wt tg (.returned (.tuple #[])) w1 :=
 ⟨rfl, st', sl', hs, hf, hw, (WrOn.of_below hW hb).trans ho⟩
theorem node_no (f0 : Int) (f1 : ByteArray) (A2 A3 : Option Addr) (n2 c2 n3 c3 : Nat) (W : World) (hz : f1.size ≤ 9223372036854775806) (hG : GLw W) (hT : Tabs W) (hok : nodeOK f0 f1 n2 n3 = false) :
  Calls Tryz.prog 145 #[jVal f0 f1 A2 A3 n2 c2 n3 c3] W fun x W' => (∃ nv, x = .returned (.tuple #[nv, .bool false])) ∧ Below W.heap.size W W' := by
 by_cases h0 : f0 = 0
 ·subst h0; refine (node0 f1 A2 A3 n2 c2 n3 c3 W hG).mono ?_; rintro e w' ⟨rfl, hb⟩; rw [hok]; exact ⟨⟨_, rfl⟩, hb⟩
 by_cases h1 : f0 = 1
 ·subst h1; refine (node1 f1 A2 A3 n2 c2 n3 c3 W hG).mono ?_; rintro e w' ⟨rfl, hb⟩; rw [hok]; exact ⟨⟨_, rfl⟩, hb⟩
 by_cases h2 : f0 = 2
 ·subst h2; refine (node2 f1 A2 A3 n2 c2 n3 c3 W hG).mono ?_; rintro e w' ⟨rfl, hb⟩; rw [hok]; exact ⟨⟨_, rfl⟩, hb⟩
 by_cases h3 : f0 = 3
 ·subst h3; refine (node3 f1 A2 A3 n2 c2 n3 c3 W hz).mono ?_; rintro e w' ⟨rfl, hb⟩; rw [hok]; exact ⟨⟨_, rfl⟩, hb⟩
 by_cases h4 : f0 = 4
 ·subst h4; refine (node4 f1 A2 A3 n2 c2 n3 c3 W hz hT).mono ?_; rintro e w' ⟨rfl, hb⟩; rw [hok]; exact ⟨⟨_, rfl⟩, hb⟩
 by_cases h5 : f0 = 5
 ·subst h5; refine (node5 f1 A2 A3 n2 c2 n3 c3 W).mono ?_; rintro e w' ⟨rfl, hb⟩; rw [hok]; exact ⟨⟨_, rfl⟩, hb⟩
 by_cases h6 : f0 = 6
 ·subst h6; refine (node6 f1 A2 A3 n2 c2 n3 c3 W).mono ?_; rintro e w' ⟨rfl, hb⟩; rw [hok]; exact ⟨⟨_, rfl⟩, hb⟩
 refine (nodeX f0 h0 h1 h2 h3 h4 h5 h6 f1 A2 A3 n2 c2 n3 c3 W).mono ?_; rintro e w' ⟨rfl, hb⟩; rw [hok]; exact ⟨⟨_, rfl⟩, hb⟩
theorem node_yes0 (f1 : ByteArray) (A2 A3 : Option Addr) (n2 c2 n3 c3 : Nat) (W : World) (hG : GLw W) (hok : nodeOK 0 f1 n2 n3 = true) :
  Calls Tryz.prog 145 #[jVal 0 f1 A2 A3 n2 c2 n3 c3] W fun x W' => x = .returned (.tuple #[.iface 207 (.agg #[.string (wordB 0)]), .bool true]) ∧ Below W.heap.size W W' := by
 refine (node0 f1 A2 A3 n2 c2 n3 c3 W hG).mono ?_
 rintro e w' ⟨rfl, hb⟩
 rw [hok]
 exact ⟨rfl, hb⟩
theorem node_yes1 (f1 : ByteArray) (A2 A3 : Option Addr) (n2 c2 n3 c3 : Nat) (W : World) (hG : GLw W) (hok : nodeOK 1 f1 n2 n3 = true) :
  Calls Tryz.prog 145 #[jVal 1 f1 A2 A3 n2 c2 n3 c3] W fun x W' => x = .returned (.tuple #[.iface 207 (.agg #[.string (wordB 1)]), .bool true]) ∧ Below W.heap.size W W' := by
 refine (node1 f1 A2 A3 n2 c2 n3 c3 W hG).mono ?_
 rintro e w' ⟨rfl, hb⟩
 rw [hok]
 exact ⟨rfl, hb⟩
theorem node_yes2 (f1 : ByteArray) (A2 A3 : Option Addr) (n2 c2 n3 c3 : Nat) (W : World) (hG : GLw W) (hok : nodeOK 2 f1 n2 n3 = true) :
  Calls Tryz.prog 145 #[jVal 2 f1 A2 A3 n2 c2 n3 c3] W fun x W' => x = .returned (.tuple #[.iface 207 (.agg #[.string (wordB 2)]), .bool true]) ∧ Below W.heap.size W W' := by
 refine (node2 f1 A2 A3 n2 c2 n3 c3 W hG).mono ?_
 rintro e w' ⟨rfl, hb⟩
 rw [hok]
 exact ⟨rfl, hb⟩
theorem node_yes3 (f1 : ByteArray) (A2 A3 : Option Addr) (n2 c2 n3 c3 : Nat) (W : World) (hz : f1.size ≤ 9223372036854775806) (hok : nodeOK 3 f1 n2 n3 = true) :
  Calls Tryz.prog 145 #[jVal 3 f1 A2 A3 n2 c2 n3 c3] W fun x W' => x = .returned (.tuple #[.iface 207 (.agg #[.string f1]), .bool true]) ∧ Below W.heap.size W W' := by
 refine (node3 f1 A2 A3 n2 c2 n3 c3 W hz).mono ?_
 rintro e w' ⟨rfl, hb⟩
 rw [hok]
 exact ⟨rfl, hb⟩
theorem node_yes4 (f1 : ByteArray) (A2 A3 : Option Addr) (n2 c2 n3 c3 : Nat) (W : World) (hz : f1.size ≤ 9223372036854775806) (hT : Tabs W) (hok : nodeOK 4 f1 n2 n3 = true) :
  Calls Tryz.prog 145 #[jVal 4 f1 A2 A3 n2 c2 n3 c3] W fun x W' => x = .returned (.tuple #[.iface 209 (.agg #[.string f1]), .bool true]) ∧ Below W.heap.size W W' := by
 refine (node4 f1 A2 A3 n2 c2 n3 c3 W hz hT).mono ?_
 rintro e w' ⟨rfl, hb⟩
 rw [hok]
 exact ⟨rfl, hb⟩
theorem node_yes5 (f1 : ByteArray) (A2 A3 : Option Addr) (n2 c2 n3 c3 : Nat) (W : World) (hok : nodeOK 5 f1 n2 n3 = true) :
  Calls Tryz.prog 145 #[jVal 5 f1 A2 A3 n2 c2 n3 c3] W fun x W' => x = .returned (.tuple #[.iface 211 (.agg #[.slice A3 n3 c3]), .bool true]) ∧ Below W.heap.size W W' := by
 refine (node5 f1 A2 A3 n2 c2 n3 c3 W).mono ?_
 rintro e w' ⟨rfl, hb⟩
 rw [hok]
 exact ⟨rfl, hb⟩
theorem node_yes6 (f1 : ByteArray) (A2 A3 : Option Addr) (n2 c2 n3 c3 : Nat) (W : World) (hok : nodeOK 6 f1 n2 n3 = true) :
  Calls Tryz.prog 145 #[jVal 6 f1 A2 A3 n2 c2 n3 c3] W fun x W' => x = .returned (.tuple #[.iface 213 (.agg #[.slice A2 n2 c2, .slice A3 n3 c3]), .bool true]) ∧ Below W.heap.size W W' := by
 refine (node6 f1 A2 A3 n2 c2 n3 c3 W).mono ?_
 rintro e w' ⟨rfl, hb⟩
 rw [hok]
 exact ⟨rfl, hb⟩
theorem is_78 (v : Value) (w : World) : (Instr.typeAssert (.iface 207 v) 203 207 true).run Tryz.prog w = .ok (.tuple #[v, .bool true]) w := by kernel_rfl
theorem is_80 (v : Value) (w : World) : (Instr.typeAssert (.iface 209 v) 203 209 true).run Tryz.prog w = .ok (.tuple #[v, .bool true]) w := by kernel_rfl
theorem no_80_78 (v : Value) (w : World) : (Instr.typeAssert (.iface 209 v) 203 207 true).run Tryz.prog w = .ok (.tuple #[.agg #[.string ⟨#[]⟩], .bool false]) w := by kernel_rfl
theorem is_82 (v : Value) (w : World) : (Instr.typeAssert (.iface 211 v) 203 211 true).run Tryz.prog w = .ok (.tuple #[v, .bool true]) w := by kernel_rfl
theorem no_82_78 (v : Value) (w : World) : (Instr.typeAssert (.iface 211 v) 203 207 true).run Tryz.prog w = .ok (.tuple #[.agg #[.string ⟨#[]⟩], .bool false]) w := by kernel_rfl
theorem no_82_80 (v : Value) (w : World) : (Instr.typeAssert (.iface 211 v) 203 209 true).run Tryz.prog w = .ok (.tuple #[.agg #[.string ⟨#[]⟩], .bool false]) w := by kernel_rfl
theorem is_84 (v : Value) (w : World) : (Instr.typeAssert (.iface 213 v) 203 213 true).run Tryz.prog w = .ok (.tuple #[v, .bool true]) w := by kernel_rfl
theorem no_84_78 (v : Value) (w : World) : (Instr.typeAssert (.iface 213 v) 203 207 true).run Tryz.prog w = .ok (.tuple #[.agg #[.string ⟨#[]⟩], .bool false]) w := by kernel_rfl
theorem no_84_80 (v : Value) (w : World) : (Instr.typeAssert (.iface 213 v) 203 209 true).run Tryz.prog w = .ok (.tuple #[.agg #[.string ⟨#[]⟩], .bool false]) w := by kernel_rfl
theorem no_84_82 (v : Value) (w : World) : (Instr.typeAssert (.iface 213 v) 203 211 true).run Tryz.prog w = .ok (.tuple #[.agg #[.slice none 0 0], .bool false]) w := by kernel_rfl
set_option maxRecDepth 1000000 in
set_option maxHeartbeats 4000000 in
theorem value_bad (Wd : Nat) (free canon : Bool) (st : St) (sl : Value) (d : Int) (f0 : Int) (f1 : ByteArray) (A2 A3 : Option Addr) (n2 c2 n3 c3 : Nat) (W : World) (wt : Nat) (h : Wr Wd free st sl W) (he : st.e ≠ 0) :
  Calls Tryz.prog 110 #[ptr Wd, jVal f0 f1 A2 A3 n2 c2 n3 c3, .int .i64 d, .bool canon] W (VEnds Wd free canon st sl W wt (st)) := by
 have H := am h
 have HL := am (Nat.le_of_lt h.lt)
 have cw2 : ∀ o : Obj, (W.alloc o).cell? ⟨Wd, 2, none⟩ = some (.int .i64 st.e) := fun o => (World.cell?_of_block (Below.block (below_alloc (Below.refl _ _) o) _ h.lt)).trans ((blk_cell h.blk 2).trans rfl)
 clear h
 have e0 : ((st.e : Int) != 0) = true := by
  have : ¬ (st.e : Int) = 0 := by omega
  simp only [bne_iff_ne, ne_eq]
  exact this
 go_enter Tryz.func110, Tryz.ntmps110
 go_wp2
 (try simp only [Exit.inBlock, Exit.then])
 refine ⟨rfl, .tuple #[], results_none rfl _ _ _, ?_⟩
 exact VEnds.of (by repeat (first | exact Below.refl _ _ | apply below_drewN | apply below_drew1 | apply below_alloc)) HL.out (WrOn.refl _ _ _) (H.out.below (by repeat (first | exact Below.refl _ _ | apply below_drewN | apply below_drew1 | apply below_alloc))) (Sm.refl _ _) (fun n hn => hn.less (by omega))
set_option maxRecDepth 1000000 in
set_option maxHeartbeats 4000000 in
theorem value_deep5 (Wd : Nat) (free canon : Bool) (st : St) (sl : Value) (d : Int) (f1 : ByteArray) (A2 A3 : Option Addr) (n2 c2 n3 c3 : Nat) (W : World) (wt : Nat) (h : Wr Wd free st sl W) (he : st.e = 0) (h1 : ¬ (32 : Int) < d) (h2 : (32 : Int) ≤ d) :
  Calls Tryz.prog 110 #[ptr Wd, jVal 5 f1 A2 A3 n2 c2 n3 c3, .int .i64 d, .bool canon] W (VEnds Wd free canon st sl W wt (⟨st.out, 46⟩)) := by
 have H := am h
 have HL := am (Nat.le_of_lt h.lt)
 have cw2 : ∀ o : Obj, (W.alloc o).cell? ⟨Wd, 2, none⟩ = some (.int .i64 st.e) := fun o => (World.cell?_of_block (Below.block (below_alloc (Below.refl _ _) o) _ h.lt)).trans ((blk_cell h.blk 2).trans rfl)
 clear h
 have e0 : ((st.e : Int) != 0) = false := by rw [he]; rfl
 have b1 : decide ((32 : Int) < d) = false := decide_eq_false h1
 have b2 : decide ((32 : Int) ≤ d) = true := decide_eq_true h2
 have HN := am (show (46 : Int) = ((46 : Nat) : Int) from rfl)
 have HF := am (show failF st 46 = ⟨st.out, 46⟩ by unfold failF; rw [if_pos he])
 clear he
 go_enter Tryz.func110, Tryz.ntmps110
 go_wp2_with (go_at_call 144; (with_reducible refine (wfail_calls Wd free st sl 46 46 HN.out _ ?wr).mono ?_); (case wr => exact H.out.below (by repeat (first | exact Below.refl _ _ | apply below_drewN | apply below_drew1 | apply below_alloc))); rintro e w9 ⟨rfl, hw, ho⟩; have HW9 := am hw; have HO9 := am ho; clear hw ho)
 (try simp only [Exit.inBlock, Exit.then])
 refine ⟨rfl, .tuple #[], results_none rfl _ _ _, ?_⟩
 exact VEnds.of (by repeat (first | exact Below.refl _ _ | apply below_drewN | apply below_drew1 | apply below_alloc)) HL.out HO9.out HW9.out (.inl HF.out) (fun n hn => (hn.less (by omega)).failF 46)
set_option maxRecDepth 1000000 in
set_option maxHeartbeats 4000000 in
theorem value_deep6 (Wd : Nat) (free canon : Bool) (st : St) (sl : Value) (d : Int) (f1 : ByteArray) (A2 A3 : Option Addr) (n2 c2 n3 c3 : Nat) (W : World) (wt : Nat) (h : Wr Wd free st sl W) (he : st.e = 0) (h1 : ¬ (32 : Int) < d) (h2 : (32 : Int) ≤ d) :
  Calls Tryz.prog 110 #[ptr Wd, jVal 6 f1 A2 A3 n2 c2 n3 c3, .int .i64 d, .bool canon] W (VEnds Wd free canon st sl W wt (⟨st.out, 46⟩)) := by
 have H := am h
 have HL := am (Nat.le_of_lt h.lt)
 have cw2 : ∀ o : Obj, (W.alloc o).cell? ⟨Wd, 2, none⟩ = some (.int .i64 st.e) := fun o => (World.cell?_of_block (Below.block (below_alloc (Below.refl _ _) o) _ h.lt)).trans ((blk_cell h.blk 2).trans rfl)
 clear h
 have e0 : ((st.e : Int) != 0) = false := by rw [he]; rfl
 have b1 : decide ((32 : Int) < d) = false := decide_eq_false h1
 have b2 : decide ((32 : Int) ≤ d) = true := decide_eq_true h2
 have HN := am (show (46 : Int) = ((46 : Nat) : Int) from rfl)
 have HF := am (show failF st 46 = ⟨st.out, 46⟩ by unfold failF; rw [if_pos he])
 clear he
 go_enter Tryz.func110, Tryz.ntmps110
 go_wp2_with (go_at_call 144; (with_reducible refine (wfail_calls Wd free st sl 46 46 HN.out _ ?wr).mono ?_); (case wr => exact H.out.below (by repeat (first | exact Below.refl _ _ | apply below_drewN | apply below_drew1 | apply below_alloc))); rintro e w9 ⟨rfl, hw, ho⟩; have HW9 := am hw; have HO9 := am ho; clear hw ho)
 (try simp only [Exit.inBlock, Exit.then])
 refine ⟨rfl, .tuple #[], results_none rfl _ _ _, ?_⟩
 exact VEnds.of (by repeat (first | exact Below.refl _ _ | apply below_drewN | apply below_drew1 | apply below_alloc)) HL.out HO9.out HW9.out (.inl HF.out) (fun n hn => (hn.less (by omega)).failF 46)
set_option maxRecDepth 1000000 in
set_option maxHeartbeats 4000000 in
theorem value_node5 (Wd : Nat) (free canon : Bool) (st : St) (sl : Value) (d : Int) (f1 : ByteArray) (A2 A3 : Option Addr) (n2 c2 n3 c3 : Nat) (W : World) (wt : Nat) (h : Wr Wd free st sl W) (he : st.e = 0) (h1 : ¬ (32 : Int) < d) (h2 : ¬ (32 : Int) ≤ d) (hz : f1.size ≤ 9223372036854775806) (hok : nodeOK 5 f1 n2 n3 = false) (hG : Gl Wd W) :
  Calls Tryz.prog 110 #[ptr Wd, jVal 5 f1 A2 A3 n2 c2 n3 c3, .int .i64 d, .bool canon] W (VEnds Wd free canon st sl W wt (⟨st.out, 47⟩)) := by
 have H := am h
 have HL := am (Nat.le_of_lt h.lt)
 have cw2 : ∀ o : Obj, (W.alloc o).cell? ⟨Wd, 2, none⟩ = some (.int .i64 st.e) := fun o => (World.cell?_of_block (Below.block (below_alloc (Below.refl _ _) o) _ h.lt)).trans ((blk_cell h.blk 2).trans rfl)
 clear h
 have e0 : ((st.e : Int) != 0) = false := by rw [he]; rfl
 have b1 : decide ((32 : Int) < d) = false := decide_eq_false h1
 have b2 : decide ((32 : Int) ≤ d) = false := decide_eq_false h2
 have HN := am (show (47 : Int) = ((47 : Nat) : Int) from rfl)
 have HOK := am hok
 have HG := am hG
 have HF := am (show failF st 47 = ⟨st.out, 47⟩ by unfold failF; rw [if_pos he])
 clear he hok hG
 go_enter Tryz.func110, Tryz.ntmps110
 go_wp2_with (first | (go_at_call 145; (with_reducible refine (node_no 5 f1 A2 A3 n2 c2 n3 c3 _ hz ?gl ?tb HOK.out).mono ?_); (case gl => exact (HG.out.below (by repeat (first | exact Below.refl _ _ | apply below_drewN | apply below_drew1 | apply below_alloc)) HL.out).words); (case tb => exact (HG.out.below (by repeat (first | exact Below.refl _ _ | apply below_drewN | apply below_drew1 | apply below_alloc)) HL.out).tabs); rintro e w1 ⟨⟨nv, rfl⟩, hb⟩; have HB1 := am (show Below W.heap.size W w1 from below_step (by repeat (first | exact Below.refl _ _ | apply below_drewN | apply below_drew1 | apply below_alloc)) hb); clear hb) | (go_at_call 144; (with_reducible refine (wfail_calls Wd free st sl 47 47 HN.out _ ?wr).mono ?_); (case wr => exact H.out.below HB1.out); rintro e w9 ⟨rfl, hw, ho⟩; have HW9 := am hw; have HO9 := am ho; clear hw ho))
 (try simp only [Exit.inBlock, Exit.then])
 refine ⟨rfl, .tuple #[], results_none rfl _ _ _, ?_⟩
 exact VEnds.of HB1.out HL.out HO9.out HW9.out (.inl HF.out) (fun n hn => (hn.less (by omega)).failF 47)
set_option maxRecDepth 1000000 in
set_option maxHeartbeats 4000000 in
theorem value_node6 (Wd : Nat) (free canon : Bool) (st : St) (sl : Value) (d : Int) (f1 : ByteArray) (A2 A3 : Option Addr) (n2 c2 n3 c3 : Nat) (W : World) (wt : Nat) (h : Wr Wd free st sl W) (he : st.e = 0) (h1 : ¬ (32 : Int) < d) (h2 : ¬ (32 : Int) ≤ d) (hz : f1.size ≤ 9223372036854775806) (hok : nodeOK 6 f1 n2 n3 = false) (hG : Gl Wd W) :
  Calls Tryz.prog 110 #[ptr Wd, jVal 6 f1 A2 A3 n2 c2 n3 c3, .int .i64 d, .bool canon] W (VEnds Wd free canon st sl W wt (⟨st.out, 47⟩)) := by
 have H := am h
 have HL := am (Nat.le_of_lt h.lt)
 have cw2 : ∀ o : Obj, (W.alloc o).cell? ⟨Wd, 2, none⟩ = some (.int .i64 st.e) := fun o => (World.cell?_of_block (Below.block (below_alloc (Below.refl _ _) o) _ h.lt)).trans ((blk_cell h.blk 2).trans rfl)
 clear h
 have e0 : ((st.e : Int) != 0) = false := by rw [he]; rfl
 have b1 : decide ((32 : Int) < d) = false := decide_eq_false h1
 have b2 : decide ((32 : Int) ≤ d) = false := decide_eq_false h2
 have HN := am (show (47 : Int) = ((47 : Nat) : Int) from rfl)
 have HOK := am hok
 have HG := am hG
 have HF := am (show failF st 47 = ⟨st.out, 47⟩ by unfold failF; rw [if_pos he])
 clear he hok hG
 go_enter Tryz.func110, Tryz.ntmps110
 go_wp2_with (first | (go_at_call 145; (with_reducible refine (node_no 6 f1 A2 A3 n2 c2 n3 c3 _ hz ?gl ?tb HOK.out).mono ?_); (case gl => exact (HG.out.below (by repeat (first | exact Below.refl _ _ | apply below_drewN | apply below_drew1 | apply below_alloc)) HL.out).words); (case tb => exact (HG.out.below (by repeat (first | exact Below.refl _ _ | apply below_drewN | apply below_drew1 | apply below_alloc)) HL.out).tabs); rintro e w1 ⟨⟨nv, rfl⟩, hb⟩; have HB1 := am (show Below W.heap.size W w1 from below_step (by repeat (first | exact Below.refl _ _ | apply below_drewN | apply below_drew1 | apply below_alloc)) hb); clear hb) | (go_at_call 144; (with_reducible refine (wfail_calls Wd free st sl 47 47 HN.out _ ?wr).mono ?_); (case wr => exact H.out.below HB1.out); rintro e w9 ⟨rfl, hw, ho⟩; have HW9 := am hw; have HO9 := am ho; clear hw ho))
 (try simp only [Exit.inBlock, Exit.then])
 refine ⟨rfl, .tuple #[], results_none rfl _ _ _, ?_⟩
 exact VEnds.of HB1.out HL.out HO9.out HW9.out (.inl HF.out) (fun n hn => (hn.less (by omega)).failF 47)
set_option maxRecDepth 1000000 in
set_option maxHeartbeats 4000000 in
theorem value_nodeX (Wd : Nat) (free canon : Bool) (st : St) (sl : Value) (d : Int) (f0 : Int) (f1 : ByteArray) (A2 A3 : Option Addr) (n2 c2 n3 c3 : Nat) (W : World) (wt : Nat) (h : Wr Wd free st sl W) (he : st.e = 0) (h1 : ¬ (32 : Int) < d) (h5 : ¬ f0 = 5) (h6 : ¬ f0 = 6) (hz : f1.size ≤ 9223372036854775806) (hok : nodeOK f0 f1 n2 n3 = false) (hG : Gl Wd W) :
  Calls Tryz.prog 110 #[ptr Wd, jVal f0 f1 A2 A3 n2 c2 n3 c3, .int .i64 d, .bool canon] W (VEnds Wd free canon st sl W wt (⟨st.out, 47⟩)) := by
 have H := am h
 have HL := am (Nat.le_of_lt h.lt)
 have cw2 : ∀ o : Obj, (W.alloc o).cell? ⟨Wd, 2, none⟩ = some (.int .i64 st.e) := fun o => (World.cell?_of_block (Below.block (below_alloc (Below.refl _ _) o) _ h.lt)).trans ((blk_cell h.blk 2).trans rfl)
 clear h
 have e0 : ((st.e : Int) != 0) = false := by rw [he]; rfl
 have b1 : decide ((32 : Int) < d) = false := decide_eq_false h1
 have e5 : (f0 == 5) = false := by simp [h5]
 have e6 : (f0 == 6) = false := by simp [h6]
 have HN := am (show (47 : Int) = ((47 : Nat) : Int) from rfl)
 have HOK := am hok
 have HG := am hG
 have HF := am (show failF st 47 = ⟨st.out, 47⟩ by unfold failF; rw [if_pos he])
 clear he hok hG
 go_enter Tryz.func110, Tryz.ntmps110
 go_wp2_with (first | (go_at_call 145; (with_reducible refine (node_no f0 f1 A2 A3 n2 c2 n3 c3 _ hz ?gl ?tb HOK.out).mono ?_); (case gl => exact (HG.out.below (by repeat (first | exact Below.refl _ _ | apply below_drewN | apply below_drew1 | apply below_alloc)) HL.out).words); (case tb => exact (HG.out.below (by repeat (first | exact Below.refl _ _ | apply below_drewN | apply below_drew1 | apply below_alloc)) HL.out).tabs); rintro e w1 ⟨⟨nv, rfl⟩, hb⟩; have HB1 := am (show Below W.heap.size W w1 from below_step (by repeat (first | exact Below.refl _ _ | apply below_drewN | apply below_drew1 | apply below_alloc)) hb); clear hb) | (go_at_call 144; (with_reducible refine (wfail_calls Wd free st sl 47 47 HN.out _ ?wr).mono ?_); (case wr => exact H.out.below HB1.out); rintro e w9 ⟨rfl, hw, ho⟩; have HW9 := am hw; have HO9 := am ho; clear hw ho))
 (try simp only [Exit.inBlock, Exit.then])
 refine ⟨rfl, .tuple #[], results_none rfl _ _ _, ?_⟩
 exact VEnds.of HB1.out HL.out HO9.out HW9.out (.inl HF.out) (fun n hn => (hn.less (by omega)).failF 47)
set_option maxRecDepth 1000000 in
set_option maxHeartbeats 4000000 in
theorem value_word0 (Wd : Nat) (free canon : Bool) (st : St) (sl : Value) (d : Int) (f1 : ByteArray) (A2 A3 : Option Addr) (n2 c2 n3 c3 : Nat) (W : World) (wt : Nat) (h : Wr Wd free st sl W) (he : st.e = 0) (h1 : ¬ (32 : Int) < d) (hok : nodeOK 0 f1 n2 n3 = true) (hG : Gl Wd W) (hrm : Room free st (wordB 0).size) (hwt : (wordB 0).size ≤ wt) :
  Calls Tryz.prog 110 #[ptr Wd, jVal 0 f1 A2 A3 n2 c2 n3 c3, .int .i64 d, .bool canon] W (VEnds Wd free canon st sl W wt (putF free st (wordB 0).data.toList)) := by
 have H := am h
 have HL := am (Nat.le_of_lt h.lt)
 have cw2 : ∀ o : Obj, (W.alloc o).cell? ⟨Wd, 2, none⟩ = some (.int .i64 st.e) := fun o => (World.cell?_of_block (Below.block (below_alloc (Below.refl _ _) o) _ h.lt)).trans ((blk_cell h.blk 2).trans rfl)
 clear h
 have e0 : ((st.e : Int) != 0) = false := by rw [he]; rfl
 have b1 : decide ((32 : Int) < d) = false := decide_eq_false h1
 have HOK := am hok
 have HG := am hG
 have HRM := am hrm
 clear he hok hG hrm
 have ta := is_78
 go_enter Tryz.func110, Tryz.ntmps110
 go_wp2_with (first | (go_at_call 145; (with_reducible refine (node_yes0 f1 A2 A3 n2 c2 n3 c3 _ ?gl HOK.out).mono ?_); (case gl => exact (HG.out.below (by repeat (first | exact Below.refl _ _ | apply below_drewN | apply below_drew1 | apply below_alloc)) HL.out).words); rintro e w1 ⟨rfl, hb⟩; have HB1 := am (show Below W.heap.size W w1 from below_step (by repeat (first | exact Below.refl _ _ | apply below_drewN | apply below_drew1 | apply below_alloc)) hb); clear hb) | (go_at_call 146; (with_reducible refine (put_calls Wd free st sl (wordB 0) _ ?rm9 ?wr9).mono ?_); (case rm9 => exact HRM.out); (case wr9 => exact H.out.below (by repeat (first | exact HB1.out | exact Below.refl _ _ | apply below_drewN | apply below_drew1 | apply below_alloc | refine below_set ?_ HB1.out.size))); rintro e w9 ⟨rfl, sl9, hw, ho⟩; have HW9 := am hw; have HO9 := am ho; clear hw ho))
 (try simp only [Exit.inBlock, Exit.then])
 refine ⟨rfl, .tuple #[], results_none rfl _ _ _, ?_⟩
 exact VEnds.of (by repeat (first | exact HB1.out | exact Below.refl _ _ | apply below_drewN | apply below_drew1 | apply below_alloc | refine below_set ?_ HB1.out.size)) HL.out HO9.out HW9.out (.inl rfl) (fun n hn => hn.put _ (by rw [size_data]; omega))
set_option maxRecDepth 1000000 in
set_option maxHeartbeats 4000000 in
theorem value_word1 (Wd : Nat) (free canon : Bool) (st : St) (sl : Value) (d : Int) (f1 : ByteArray) (A2 A3 : Option Addr) (n2 c2 n3 c3 : Nat) (W : World) (wt : Nat) (h : Wr Wd free st sl W) (he : st.e = 0) (h1 : ¬ (32 : Int) < d) (hok : nodeOK 1 f1 n2 n3 = true) (hG : Gl Wd W) (hrm : Room free st (wordB 1).size) (hwt : (wordB 1).size ≤ wt) :
  Calls Tryz.prog 110 #[ptr Wd, jVal 1 f1 A2 A3 n2 c2 n3 c3, .int .i64 d, .bool canon] W (VEnds Wd free canon st sl W wt (putF free st (wordB 1).data.toList)) := by
 have H := am h
 have HL := am (Nat.le_of_lt h.lt)
 have cw2 : ∀ o : Obj, (W.alloc o).cell? ⟨Wd, 2, none⟩ = some (.int .i64 st.e) := fun o => (World.cell?_of_block (Below.block (below_alloc (Below.refl _ _) o) _ h.lt)).trans ((blk_cell h.blk 2).trans rfl)
 clear h
 have e0 : ((st.e : Int) != 0) = false := by rw [he]; rfl
 have b1 : decide ((32 : Int) < d) = false := decide_eq_false h1
 have HOK := am hok
 have HG := am hG
 have HRM := am hrm
 clear he hok hG hrm
 have ta := is_78
 go_enter Tryz.func110, Tryz.ntmps110
 go_wp2_with (first | (go_at_call 145; (with_reducible refine (node_yes1 f1 A2 A3 n2 c2 n3 c3 _ ?gl HOK.out).mono ?_); (case gl => exact (HG.out.below (by repeat (first | exact Below.refl _ _ | apply below_drewN | apply below_drew1 | apply below_alloc)) HL.out).words); rintro e w1 ⟨rfl, hb⟩; have HB1 := am (show Below W.heap.size W w1 from below_step (by repeat (first | exact Below.refl _ _ | apply below_drewN | apply below_drew1 | apply below_alloc)) hb); clear hb) | (go_at_call 146; (with_reducible refine (put_calls Wd free st sl (wordB 1) _ ?rm9 ?wr9).mono ?_); (case rm9 => exact HRM.out); (case wr9 => exact H.out.below (by repeat (first | exact HB1.out | exact Below.refl _ _ | apply below_drewN | apply below_drew1 | apply below_alloc | refine below_set ?_ HB1.out.size))); rintro e w9 ⟨rfl, sl9, hw, ho⟩; have HW9 := am hw; have HO9 := am ho; clear hw ho))
 (try simp only [Exit.inBlock, Exit.then])
 refine ⟨rfl, .tuple #[], results_none rfl _ _ _, ?_⟩
 exact VEnds.of (by repeat (first | exact HB1.out | exact Below.refl _ _ | apply below_drewN | apply below_drew1 | apply below_alloc | refine below_set ?_ HB1.out.size)) HL.out HO9.out HW9.out (.inl rfl) (fun n hn => hn.put _ (by rw [size_data]; omega))
set_option maxRecDepth 1000000 in
set_option maxHeartbeats 4000000 in
theorem value_word2 (Wd : Nat) (free canon : Bool) (st : St) (sl : Value) (d : Int) (f1 : ByteArray) (A2 A3 : Option Addr) (n2 c2 n3 c3 : Nat) (W : World) (wt : Nat) (h : Wr Wd free st sl W) (he : st.e = 0) (h1 : ¬ (32 : Int) < d) (hok : nodeOK 2 f1 n2 n3 = true) (hG : Gl Wd W) (hrm : Room free st (wordB 2).size) (hwt : (wordB 2).size ≤ wt) :
  Calls Tryz.prog 110 #[ptr Wd, jVal 2 f1 A2 A3 n2 c2 n3 c3, .int .i64 d, .bool canon] W (VEnds Wd free canon st sl W wt (putF free st (wordB 2).data.toList)) := by
 have H := am h
 have HL := am (Nat.le_of_lt h.lt)
 have cw2 : ∀ o : Obj, (W.alloc o).cell? ⟨Wd, 2, none⟩ = some (.int .i64 st.e) := fun o => (World.cell?_of_block (Below.block (below_alloc (Below.refl _ _) o) _ h.lt)).trans ((blk_cell h.blk 2).trans rfl)
 clear h
 have e0 : ((st.e : Int) != 0) = false := by rw [he]; rfl
 have b1 : decide ((32 : Int) < d) = false := decide_eq_false h1
 have HOK := am hok
 have HG := am hG
 have HRM := am hrm
 clear he hok hG hrm
 have ta := is_78
 go_enter Tryz.func110, Tryz.ntmps110
 go_wp2_with (first | (go_at_call 145; (with_reducible refine (node_yes2 f1 A2 A3 n2 c2 n3 c3 _ ?gl HOK.out).mono ?_); (case gl => exact (HG.out.below (by repeat (first | exact Below.refl _ _ | apply below_drewN | apply below_drew1 | apply below_alloc)) HL.out).words); rintro e w1 ⟨rfl, hb⟩; have HB1 := am (show Below W.heap.size W w1 from below_step (by repeat (first | exact Below.refl _ _ | apply below_drewN | apply below_drew1 | apply below_alloc)) hb); clear hb) | (go_at_call 146; (with_reducible refine (put_calls Wd free st sl (wordB 2) _ ?rm9 ?wr9).mono ?_); (case rm9 => exact HRM.out); (case wr9 => exact H.out.below (by repeat (first | exact HB1.out | exact Below.refl _ _ | apply below_drewN | apply below_drew1 | apply below_alloc | refine below_set ?_ HB1.out.size))); rintro e w9 ⟨rfl, sl9, hw, ho⟩; have HW9 := am hw; have HO9 := am ho; clear hw ho))
 (try simp only [Exit.inBlock, Exit.then])
 refine ⟨rfl, .tuple #[], results_none rfl _ _ _, ?_⟩
 exact VEnds.of (by repeat (first | exact HB1.out | exact Below.refl _ _ | apply below_drewN | apply below_drew1 | apply below_alloc | refine below_set ?_ HB1.out.size)) HL.out HO9.out HW9.out (.inl rfl) (fun n hn => hn.put _ (by rw [size_data]; omega))
set_option maxRecDepth 1000000 in
set_option maxHeartbeats 4000000 in
theorem value_word3 (Wd : Nat) (free canon : Bool) (st : St) (sl : Value) (d : Int) (f1 : ByteArray) (A2 A3 : Option Addr) (n2 c2 n3 c3 : Nat) (W : World) (wt : Nat) (h : Wr Wd free st sl W) (he : st.e = 0) (h1 : ¬ (32 : Int) < d) (hz : f1.size ≤ 9223372036854775806) (hok : nodeOK 3 f1 n2 n3 = true) (hG : Gl Wd W) (hrm : Room free st f1.size) (hwt : f1.size ≤ wt) :
  Calls Tryz.prog 110 #[ptr Wd, jVal 3 f1 A2 A3 n2 c2 n3 c3, .int .i64 d, .bool canon] W (VEnds Wd free canon st sl W wt (putF free st f1.data.toList)) := by
 have H := am h
 have HL := am (Nat.le_of_lt h.lt)
 have cw2 : ∀ o : Obj, (W.alloc o).cell? ⟨Wd, 2, none⟩ = some (.int .i64 st.e) := fun o => (World.cell?_of_block (Below.block (below_alloc (Below.refl _ _) o) _ h.lt)).trans ((blk_cell h.blk 2).trans rfl)
 clear h
 have e0 : ((st.e : Int) != 0) = false := by rw [he]; rfl
 have b1 : decide ((32 : Int) < d) = false := decide_eq_false h1
 have HOK := am hok
 have HG := am hG
 have HRM := am hrm
 clear he hok hG hrm
 have ta := is_78
 go_enter Tryz.func110, Tryz.ntmps110
 go_wp2_with (first | (go_at_call 145; (with_reducible refine (node_yes3 f1 A2 A3 n2 c2 n3 c3 _ hz HOK.out).mono ?_); rintro e w1 ⟨rfl, hb⟩; have HB1 := am (show Below W.heap.size W w1 from below_step (by repeat (first | exact Below.refl _ _ | apply below_drewN | apply below_drew1 | apply below_alloc)) hb); clear hb) | (go_at_call 146; (with_reducible refine (put_calls Wd free st sl f1 _ ?rm9 ?wr9).mono ?_); (case rm9 => exact HRM.out); (case wr9 => exact H.out.below (by repeat (first | exact HB1.out | exact Below.refl _ _ | apply below_drewN | apply below_drew1 | apply below_alloc | refine below_set ?_ HB1.out.size))); rintro e w9 ⟨rfl, sl9, hw, ho⟩; have HW9 := am hw; have HO9 := am ho; clear hw ho))
 (try simp only [Exit.inBlock, Exit.then])
 refine ⟨rfl, .tuple #[], results_none rfl _ _ _, ?_⟩
 exact VEnds.of (by repeat (first | exact HB1.out | exact Below.refl _ _ | apply below_drewN | apply below_drew1 | apply below_alloc | refine below_set ?_ HB1.out.size)) HL.out HO9.out HW9.out (.inl rfl) (fun n hn => hn.put _ (by rw [size_data]; omega))
set_option maxRecDepth 1000000 in
set_option maxHeartbeats 4000000 in
theorem value_text (Wd : Nat) (free canon : Bool) (st : St) (sl : Value) (d : Int) (f1 : ByteArray) (A2 A3 : Option Addr) (n2 c2 n3 c3 : Nat) (W : World) (wt : Nat) (h : Wr Wd free st sl W) (he : st.e = 0) (h1 : ¬ (32 : Int) < d) (hz : f1.size ≤ 9223372036854775806) (hok : nodeOK 4 f1 n2 n3 = true) (hG : Gl Wd W) (hs : f1.size ≤ 288230376151711743) (hrm : Room free st (12 * f1.size + 14)) (hwt : 12 * f1.size + 14 ≤ wt) :
  Calls Tryz.prog 110 #[ptr Wd, jVal 4 f1 A2 A3 n2 c2 n3 c3, .int .i64 d, .bool canon] W (VEnds Wd free canon st sl W wt (putsF free st (quoteB f1))) := by
 have H := am h
 have HL := am (Nat.le_of_lt h.lt)
 have cw2 : ∀ o : Obj, (W.alloc o).cell? ⟨Wd, 2, none⟩ = some (.int .i64 st.e) := fun o => (World.cell?_of_block (Below.block (below_alloc (Below.refl _ _) o) _ h.lt)).trans ((blk_cell h.blk 2).trans rfl)
 clear h
 have e0 : ((st.e : Int) != 0) = false := by rw [he]; rfl
 have b1 : decide ((32 : Int) < d) = false := decide_eq_false h1
 have HOK := am hok
 have HG := am hG
 have HRM := am hrm
 clear he hok hG hrm
 have ta := is_80
 have tb := no_80_78
 go_enter Tryz.func110, Tryz.ntmps110
 go_wp2_with (first | (go_at_call 145; (with_reducible refine (node_yes4 f1 A2 A3 n2 c2 n3 c3 _ hz ?tb HOK.out).mono ?_); (case tb => exact (HG.out.below (by repeat (first | exact Below.refl _ _ | apply below_drewN | apply below_drew1 | apply below_alloc)) HL.out).tabs); rintro e w1 ⟨rfl, hb⟩; have HB1 := am (show Below W.heap.size W w1 from below_step (by repeat (first | exact Below.refl _ _ | apply below_drewN | apply below_drew1 | apply below_alloc)) hb); clear hb) | (go_at_call 147; (with_reducible refine (quote_calls Wd free st sl f1 _ hs ?rm9 ?wr9).mono ?_); (case rm9 => exact HRM.out); (case wr9 => exact H.out.below (by repeat (first | exact HB1.out | exact Below.refl _ _ | apply below_drewN | apply below_drew1 | apply below_alloc | refine below_set ?_ HB1.out.size))); rintro e w9 ⟨rfl, sl9, hw, ho⟩; have HW9 := am hw; have HO9 := am ho; clear hw ho))
 (try simp only [Exit.inBlock, Exit.then])
 refine ⟨rfl, .tuple #[], results_none rfl _ _ _, ?_⟩
 exact VEnds.of (by repeat (first | exact HB1.out | exact Below.refl _ _ | apply below_drewN | apply below_drew1 | apply below_alloc | refine below_set ?_ HB1.out.size)) HL.out HO9.out HW9.out (.inl rfl) (fun n hn => hn.quote _ (by omega))
def WOK (free canon : Bool) (r : Nat) (d : Int) : Prop :=
 ∀ (Wd : Nat) (st : St) (sl : Value) (W : World) (v : J) (A2 A3 : Option Addr) (c2 c3 : Nat), Wr Wd free st sl W → Fit free st (wtJ r v) → SmJ r v → (canon = true → LnJ r v) → Kd.F Kd.string W (okW Wd sl) A2 v.f2.length v.f2 → v.f2.length ≤ c2 → Kd.F k25 W (okW Wd sl) A3 v.f3.length v.f3 → v.f3.length ≤ c3 → Gl Wd W →
  Calls Tryz.prog 110 #[ptr Wd, jVal v.f0 v.f1 A2 A3 v.f2.length c2 v.f3.length c3, .int .i64 d, .bool canon] W (VEnds Wd free canon st sl W (wtJ r v) (valW free canon r v st))
theorem F_elem {W : World} {ok : Nat → Prop} {A : Option Addr} {xs : List J} (h : Kd.F k25 W ok A xs.length xs) (i : Nat) (hi : i < xs.length) :
  ∃ ad A2 c2 A3 c3, A = some ad ∧ W.cell? (ad.add (i * 4)) = some (.int .i64 (rd_T25 xs i).f0) ∧ W.cell? ⟨(ad.add (i * 4)).block, (ad.add (i * 4)).off + 1, none⟩ = some (.string (rd_T25 xs i).f1) ∧ W.cell? ⟨(ad.add (i * 4)).block, (ad.add (i * 4)).off + 2, none⟩ = some (.slice A2 (rd_T25 xs i).f2.length c2) ∧ W.cell? ⟨(ad.add (i * 4)).block, (ad.add (i * 4)).off + 3, none⟩ = some (.slice A3 (rd_T25 xs i).f3.length c3) ∧
   (rd_T25 xs i).f2.length ≤ c2 ∧ Kd.F Kd.string W ok A2 (rd_T25 xs i).f2.length (rd_T25 xs i).f2 ∧ (rd_T25 xs i).f3.length ≤ c3 ∧ Kd.F k25 W ok A3 (rd_T25 xs i).f3.length (rd_T25 xs i).f3 := by
 obtain ⟨ad, c, e, _, hK, hc0, _⟩ := Kd.F_get h z25 (i : Int) (by omega) (by omega)
 have hc : ∀ j u, c[j]? = some u → W.cell? (ad.add (i * 4 + j)) = some u := hc0
 obtain ⟨A2, c2, A3, c3, rfl, l2, g2, l3, g3⟩ := k25_openF hK
 exact ⟨ad, A2, c2, A3, c3, e, hc 0 _ rfl, by rw [← add_field _ _ 1 (by omega)]; exact hc 1 _ rfl, by rw [← add_field _ _ 2 (by omega)]; exact hc 2 _ rfl, by rw [← add_field _ _ 3 (by omega)]; exact hc 3 _ rfl, l2, g2, l3, g3⟩
theorem Wr.newblk {Wd b : Nat} {free : Bool} {st : St} {sl sl' : Value} {W w0 w1 : World} {o : Obj} (h : Wr Wd free st sl W) (hb : W.heap.size ≤ b) (ho : WrOn Wd sl sl' w0 w1) (hk : w0.heap[b]? = some o) : w1.heap[b]? = some o :=
 (ho.kept b (lt_of_block hk) (by have := h.lt; omega) (fun hh => by have := (h.own.lt b hh.symm).2; omega)).trans hk
def wtI (r : Nat) (l : List J) : Nat := (l.map (fun y => wtJ r y + 1)).sum
theorem rd_mem (xs : List J) (i : Nat) (hi : i < xs.length) : rd_T25 xs i ∈ xs := by
 unfold rd_T25
 rw [show ((i : Int)).toNat = i from Int.toNat_natCast i, List.getD_eq_getElem?_getD, List.getElem?_eq_getElem hi]
 exact List.getElem_mem hi
theorem wtI_cons (r : Nat) (y : J) (l : List J) : wtI r (y :: l) = wtJ r y + 1 + wtI r l := by simp [wtI]
theorem itemsW_cons (free : Bool) (one : J → St → St) (i : Nat) (y : J) (l : List J) (st : St) : itemsW free one i (y :: l) st = itemsW free one (i + 1) l (one y (if i = 0 then st else putF free st [44])) := by
 rw [itemsW]
theorem wrap_next (i n : Nat) (hi : i < n) (hn : n ≤ 9223372036854775807) : wrap64 ((i : Int) + 1) = ((i + 1 : Nat) : Int) := by unfold wrap64; omega
theorem drop_rd (xs : List J) (i : Nat) (hi : i < xs.length) : xs.drop i = rd_T25 xs i :: xs.drop (i + 1) := by
 rw [List.drop_eq_getElem_cons hi]
 unfold rd_T25
 rw [show ((i : Int)).toNat = i from Int.toNat_natCast i, List.getD_eq_getElem?_getD, List.getElem?_eq_getElem hi]
 rfl
set_option maxRecDepth 1000000 in
set_option maxHeartbeats 4000000 in
theorem value_list (Wd : Nat) (free canon : Bool) (st : St) (sl : Value) (d : Int) (f1 : ByteArray) (A2 A3 : Option Addr) (n2 c2 n3 c3 : Nat) (W : World) (wt : Nat) (h : Wr Wd free st sl W) (l3 : List J) (hn : n3 = l3.length) (r : Nat) (he : st.e = 0) (h1 : ¬ (32 : Int) < d) (h2 : ¬ (32 : Int) ≤ d) (hok : nodeOK 5 f1 n2 n3 = true) (hG : Gl Wd W) (hwt : wtI r l3 + 2 ≤ wt) (hfit : Fit free st wt) (hsm : ∀ y, y ∈ l3 → SmJ r y) (hln : canon = true → ∀ y, y ∈ l3 → LnJ r y) (hF3 : Kd.F k25 W (okW Wd sl) A3 n3 l3) (hc3 : n3 ≤ c3) (IH : WOK free canon r (wrap64 (d + 1))) :
  Calls Tryz.prog 110 #[ptr Wd, jVal 5 f1 A2 A3 n2 c2 n3 c3, .int .i64 d, .bool canon] W (VEnds Wd free canon st sl W wt (putF free (itemsW free (valW free canon r) 0 l3 (putF free st [91])) [93])) := by
 have H := am h
 have HL := am (Nat.le_of_lt h.lt)
 have cw2 : ∀ o : Obj, (W.alloc o).cell? ⟨Wd, 2, none⟩ = some (.int .i64 st.e) := fun o => (World.cell?_of_block (Below.block (below_alloc (Below.refl _ _) o) _ h.lt)).trans ((blk_cell h.blk 2).trans rfl)
 clear h
 have e0 : ((st.e : Int) != 0) = false := by rw [he]; rfl
 subst hn
 have b1 : decide ((32 : Int) < d) = false := decide_eq_false h1
 have b2 : decide ((32 : Int) ≤ d) = false := decide_eq_false h2
 have HOK := am hok
 have HG := am hG
 have HF := am hfit
 have HS := am hsm
 have HLN := am hln
 have HX := am hF3
 unfold WOK at IH
 have HI := am IH
 have hmax := Kd.F_max hF3
 clear he hok hG hfit hsm hln hF3 IH
 have ta := is_82
 have tb := no_82_78
 have tc := no_82_80
 go_enter Tryz.func110, Tryz.ntmps110
 go_wp2_with (first | (go_at_call 145; (with_reducible refine (node_yes5 f1 A2 A3 n2 c2 l3.length c3 _ HOK.out).mono ?_); rintro e w1 ⟨rfl, hb⟩; have HB1 := am (show Below W.heap.size W w1 from below_step (by repeat (first | exact Below.refl _ _ | apply below_drewN | apply below_drew1 | apply below_alloc)) hb); clear hb) | (go_at_call 146; (with_reducible refine (put_calls Wd free st sl ⟨#[91]⟩ _ ?rm2 ?wr2).mono ?_); (case rm2 => exact HF.out.room (m := 1) (by omega) (by omega)); (case wr2 => exact H.out.below (by repeat (first | exact HB1.out | exact Below.refl _ _ | apply below_drewN | apply below_drew1 | apply below_alloc | refine below_set ?_ HB1.out.size))); rintro e w2 ⟨rfl, sl2, hw, ho⟩; have HW2 := am hw; have HO2 := am ho; clear hw ho; have x0 : w2.cell? ⟨w1.heap.size, 0, none⟩ = some (.slice A3 l3.length c3) := (blk_cell (H.out.newblk (o := .cells #[.slice A3 l3.length c3] 211 (0, 0)) HB1.out.size HO2.out (heap_alloc_new w1 _)) 0).trans rfl))
 have HE1 := am (show WrOn Wd sl sl2 W w2 from (WrOn.of_below HL.out (by repeat (first | exact HB1.out | exact Below.refl _ _ | apply below_drewN | apply below_drew1 | apply below_alloc | refine below_set ?_ HB1.out.size))).trans HO2.out)
 have HFe := am (show ∀ n, Fit free st (wt + n) → Fit free (putF free st [91]) (wtI r (l3.drop 0) + 1 + n) from fun n hn => hn.put [91] (by rw [List.drop_zero, List.length_singleton]; omega))
 clear x0 HB1 HOK
 go_loopg [73] (l3.length + 1) (fun g v73 wr => ∃ (i : Nat) (st2 : St) (sl2 : Value), v73 = .int .i64 (i : Int) ∧ i ≤ l3.length ∧ l3.length + 1 ≤ i + g ∧ Aside0 (Wr Wd free st2 sl2 wr) ∧ Aside0 (WrOn Wd sl sl2 W wr) ∧ Aside0 (∀ n, Fit free st (wt + n) → Fit free st2 (wtI r (l3.drop i) + 1 + n)) ∧ Aside0 (Sm canon (itemsW free (valW free canon r) i (l3.drop i) st2) (itemsW free (valW free canon r) 0 l3 (putF free st [91]))))
 case atStart => exact ⟨0, putF free st [91], sl2, rfl, by omega, by omega, HW2, HE1, HFe, ⟨Sm.refl _ _⟩⟩
 case round =>
  obtain ⟨i, st2, sl3, rfl, hi, hg, HW3, HO3, HF3, HX3⟩ := hrel
  clear HW2 HO2 HE1 HFe
  by_cases hlt : i < l3.length
  ·cases gk with
   | zero => omega
   | succ g =>
    have HX4 := am (F_on HX.out HO3.out)
    obtain ⟨ad, B2, k2, B3, k3, e9, q0, q1, q2, q3, m2, g2, m3, g3⟩ := F_elem HX4.out i hlt
    subst e9
    have HM2 := am m2
    have HM3 := am m3
    have HG2 := am g2
    have HG3 := am g3
    have HDR := am (drop_rd l3 i hlt)
    have HSY := am (HS.out (rd_T25 l3 i) (rd_mem l3 i hlt))
    have HLY := am (fun hc => HLN.out hc (rd_T25 l3 i) (rd_mem l3 i hlt))
    clear m2 m3 g2 g3
    have p1 : (0 ≤ (i : Int)) = True := eq_true (by omega)
    have p2 : ((i : Int) < (l3.length : Int)) = True := eq_true (by omega)
    have hwn := wrap_next i l3.length hlt hmax
    have HWN := am hwn
    have HIT := am (itemsW_cons free (valW free canon r) i (rd_T25 l3 i) (l3.drop (i + 1)) st2)
    have HWT := am (wtI_cons r (rd_T25 l3 i) (l3.drop (i + 1)))
    have HX5 := am (show Sm canon (itemsW free (valW free canon r) i (rd_T25 l3 i :: l3.drop (i + 1)) st2) (itemsW free (valW free canon r) 0 l3 (putF free st [91])) from drop_rd l3 i hlt ▸ HX3.out)
    have HF5 := am (show ∀ n, Fit free st (wt + n) → Fit free st2 (wtI r (rd_T25 l3 i :: l3.drop (i + 1)) + 1 + n) from drop_rd l3 i hlt ▸ HF3.out)
    have HL3 := am (Nat.le_of_lt HW3.out.lt)
    clear HX3 HF3 HDR HX4
    generalize rd_T25 l3 (i : Int) = y at *
    by_cases hi0 : i = 0
    ·have c0 : decide ((0 : Int) < (i : Int)) = false := decide_eq_false (by omega)
     have c1 : ((0 : Int) < (i : Int)) = False := eq_false (by omega)
     have c2' : (0 < i) = False := eq_false (by omega)
     have c3' : decide (0 < i) = false := decide_eq_false (by omega)
     have HF6 := am (show ∀ n, Fit free st (wt + n) → Fit free st2 (wtJ r y + (wtI r (l3.drop (i + 1)) + 1 + n)) from fun n hn => (HF5.out n hn).less (by rw [HWT.out]; omega))
     have HX6 := am (show Sm canon (itemsW free (valW free canon r) (i + 1) (l3.drop (i + 1)) (valW free canon r y st2)) (itemsW free (valW free canon r) 0 l3 (putF free st [91])) from by have := HX5.out; rw [HIT.out, if_pos hi0] at this; exact this)
     clear HX5 HIT HF5 hi0
     go_wp2_with (go_at_call 110; (with_reducible refine (HI.out Wd st2 sl3 _ y B2 B3 k2 k3 ?w6 ?f6 HSY.out HLY.out ?s62 HM2.out ?s63 HM3.out ?g6).mono ?_); (case w6 => exact HW3.out.below (by repeat (first | exact Below.refl _ _ | apply below_drewN | apply below_drew1 | apply below_alloc))); (case f6 => exact (HF6.out 0 HF.out).less (by omega)); (case s62 => exact Kd.F_below HG2.out (by repeat (first | exact Below.refl _ _ | apply below_drewN | apply below_drew1 | apply below_alloc))); (case s63 => exact Kd.F_below HG3.out (by repeat (first | exact Below.refl _ _ | apply below_drewN | apply below_drew1 | apply below_alloc))); (case g6 => exact (HG.out.on HO3.out).below (by repeat (first | exact Below.refl _ _ | apply below_drewN | apply below_drew1 | apply below_alloc)) HL3.out); rintro e w6 ⟨rfl, st6, sl6, hs, hf, hw, ho⟩; have HS6 := am hs; have HV6 := am hf; have HW6 := am hw; have HO6 := am ho; clear hs hf hw ho)
     go_roundg g
     case measure => omega
     case rel => exact ⟨i + 1, st6, sl6, (by first | exact congrArg (Value.int .i64) HWN.out | exact congrArg (Value.int .i64) (show (i : Int) + 1 = ((i + 1 : Nat) : Int) by omega)), by omega, by omega, HW6, ⟨HO3.out.trans ((WrOn.of_below HL3.out (by repeat (first | exact Below.refl _ _ | apply below_drewN | apply below_drew1 | apply below_alloc))).trans HO6.out)⟩, ⟨fun n hn => HV6.out _ (HF6.out n hn)⟩, ⟨(HS6.out.items free (fun y st h => valW_bad free canon r y st h) _ _).trans HX6.out⟩⟩
    ·have c0 : decide ((0 : Int) < (i : Int)) = true := decide_eq_true (by omega)
     have HF6 := am (show ∀ n, Fit free st (wt + n) → Fit free (putF free st2 [44]) (wtJ r y + (wtI r (l3.drop (i + 1)) + 1 + n)) from fun n hn => (HF5.out n hn).put [44] (by rw [HWT.out, List.length_singleton]; omega))
     have HX6 := am (show Sm canon (itemsW free (valW free canon r) (i + 1) (l3.drop (i + 1)) (valW free canon r y (putF free st2 [44]))) (itemsW free (valW free canon r) 0 l3 (putF free st [91])) from by have := HX5.out; rw [HIT.out, if_neg hi0] at this; exact this)
     have HR5 := am ((HF5.out 0 HF.out).room (m := 1) (by omega) (by omega))
     clear HX5 HIT HF5
     go_wp2_with (first | (go_at_call 146; (with_reducible refine (put_calls Wd free st2 sl3 ⟨#[44]⟩ _ ?rm5 ?wr5).mono ?_); (case rm5 => exact HR5.out); (case wr5 => exact HW3.out.below (by repeat (first | exact Below.refl _ _ | apply below_drewN | apply below_drew1 | apply below_alloc))); rintro e w5 ⟨rfl, sl5, hw, ho⟩; have HW5 := am hw; have HO5 := am ho; clear hw ho; have x0 : w5.cell? ⟨wr.heap.size, 0, none⟩ = some (.int .i64 y.f0) := (blk_cell (HW3.out.newblk (o := .cells #[.int .i64 y.f0, .string y.f1, .slice B2 y.f2.length k2, .slice B3 y.f3.length k3] 25 (0, 0)) (Nat.le_refl _) HO5.out (heap_alloc_new wr _)) 0).trans rfl; have x1 : w5.cell? ⟨wr.heap.size, 1, none⟩ = some (.string y.f1) := (blk_cell (HW3.out.newblk (o := .cells #[.int .i64 y.f0, .string y.f1, .slice B2 y.f2.length k2, .slice B3 y.f3.length k3] 25 (0, 0)) (Nat.le_refl _) HO5.out (heap_alloc_new wr _)) 1).trans rfl; have x2 : w5.cell? ⟨wr.heap.size, 2, none⟩ = some (.slice B2 y.f2.length k2) := (blk_cell (HW3.out.newblk (o := .cells #[.int .i64 y.f0, .string y.f1, .slice B2 y.f2.length k2, .slice B3 y.f3.length k3] 25 (0, 0)) (Nat.le_refl _) HO5.out (heap_alloc_new wr _)) 2).trans rfl; have x3 : w5.cell? ⟨wr.heap.size, 3, none⟩ = some (.slice B3 y.f3.length k3) := (blk_cell (HW3.out.newblk (o := .cells #[.int .i64 y.f0, .string y.f1, .slice B2 y.f2.length k2, .slice B3 y.f3.length k3] 25 (0, 0)) (Nat.le_refl _) HO5.out (heap_alloc_new wr _)) 3).trans rfl) | (go_at_call 110; (with_reducible refine (HI.out Wd (putF free st2 [44]) sl5 _ y B2 B3 k2 k3 ?w6 ?f6 HSY.out HLY.out ?s62 HM2.out ?s63 HM3.out ?g6).mono ?_); (case w6 => exact HW5.out); (case f6 => exact (HF6.out 0 HF.out).less (by omega)); (case s62 => exact F_on (Kd.F_below HG2.out (by repeat (first | exact Below.refl _ _ | apply below_drewN | apply below_drew1 | apply below_alloc))) HO5.out); (case s63 => exact F_on (Kd.F_below HG3.out (by repeat (first | exact Below.refl _ _ | apply below_drewN | apply below_drew1 | apply below_alloc))) HO5.out); (case g6 => exact ((HG.out.on HO3.out).below (by repeat (first | exact Below.refl _ _ | apply below_drewN | apply below_drew1 | apply below_alloc)) HL3.out).on HO5.out); rintro e w6 ⟨rfl, st6, sl6, hs, hf, hw, ho⟩; have HS6 := am hs; have HV6 := am hf; have HW6 := am hw; have HO6 := am ho; clear hs hf hw ho))
     go_roundg g
     case measure => omega
     case rel => exact ⟨i + 1, st6, sl6, (by first | exact congrArg (Value.int .i64) HWN.out | exact congrArg (Value.int .i64) (show (i : Int) + 1 = ((i + 1 : Nat) : Int) by omega)), by omega, by omega, HW6, ⟨HO3.out.trans ((WrOn.of_below HL3.out (by repeat (first | exact Below.refl _ _ | apply below_drewN | apply below_drew1 | apply below_alloc))).trans (HO5.out.trans HO6.out))⟩, ⟨fun n hn => HV6.out _ (HF6.out n hn)⟩, ⟨(HS6.out.items free (fun y st h => valW_bad free canon r y st h) _ _).trans HX6.out⟩⟩
  ·have p2 : ((i : Int) < (l3.length : Int)) = False := eq_false (by omega)
   have hie : l3.drop i = [] := List.drop_eq_nil_of_le (by omega)
   have HX5 := am (show Sm canon st2 (itemsW free (valW free canon r) 0 l3 (putF free st [91])) from by have := HX3.out; rw [hie] at this; exact this)
   have HF5 := am (show ∀ n, Fit free st (wt + n) → Fit free st2 (1 + n) from fun n hn => (HF3.out n hn).less (by omega))
   clear hie HX3 HF3
   go_wp2_with (go_at_call 146; (with_reducible refine (put_calls Wd free st2 sl3 ⟨#[93]⟩ _ ?rm9 ?wr9).mono ?_); (case rm9 => exact (HF5.out 0 HF.out).room (m := 1) (by omega) (by omega)); (case wr9 => exact HW3.out); rintro e w9 ⟨rfl, sl9, hw, ho⟩; have HW9 := am hw; have HO9 := am ho; clear hw ho)
   (try simp only [Exit.inBlock, Exit.then])
   refine ⟨rfl, .tuple #[], results_none rfl _ _ _, ?_⟩
   exact VEnds.of (Below.refl _ _) HL.out (HO3.out.trans HO9.out) HW9.out (HX5.out.put free [93]) (fun n hn => (HF5.out n hn).put [93] (by rw [List.length_singleton]; omega))
end Go.Proofs.YtpdelcbkcebkpaaGreatDoor.X
namespace Go.Proofs.YtpdelcbkcebkpaaGreatDoor.X
open Go.RowKit Go.Lib Go.Maps Go.Proofs.YtpdelcbkcebkpaaGreatDoorW.PrintWords Go.Proofs.YtpdelcbkcebkpaaGreatDoorW.PrintLast Go.Proofs.YtpdelcbkcebkpaaGreatDoorW.PrintMore
theorem Wr.keepT {Wd b t : Nat} {free : Bool} {st : St} {sl sl' : Value} {W W' : World} {c : Array Value} (hw : Wr Wd free st sl W) (ho : WrOn Wd sl sl' W W') (hk : W.heap[b]? = some (.cells c t (0, 0))) (h5 : t ≠ 5) (h60 : t ≠ 158) : W'.heap[b]? = some (.cells c t (0, 0)) := by
 refine (ho.kept b (lt_of_block hk) ?_ ?_).trans hk
 ·rintro rfl; rw [hw.blk] at hk; injection hk with hk; injection hk with _ hk; exact h60 hk.symm
 ·intro hh
  obtain ⟨cells, hc⟩ := own_typed hw.own.1 b hh.symm
  rw [hk] at hc; injection hc with hc; injection hc with _ hc; exact h5 hc
theorem Wr.keepM {Wd M : Nat} {free : Bool} {st : St} {sl sl' : Value} {W W' : World} {ns : List ByteArray} (hw : Wr Wd free st sl W) (ho : WrOn Wd sl sl' W W') (hs : Seen W M ns) : Seen W' M ns := by
 refine hs.move (ho.kept M hs.lt (fun hh => hs.ne hw.blk hh.symm) (fun hh => ?_))
 obtain ⟨cells, hc⟩ := own_typed hw.own.1 M hh.symm
 exact hs.ne hc rfl
theorem Wr.mapped {Wd M : Nat} {free : Bool} {st : St} {sl : Value} {W W' : World} {ns : List ByteArray} (hw : Wr Wd free st sl W) (hs : Seen W M ns) (hg : W.grownBy W' (some M)) : Wr Wd free st sl W' := by
 refine ⟨(hg.block Wd hw.lt (fun hh => by injection hh with hh; exact hs.ne hw.blk hh)).trans hw.blk, hw.own.heap hg.size fun g hg' => hg.block g (hw.own.lt g hg').2 (fun hh => ?_)⟩
 obtain ⟨cells, hc⟩ := own_typed hw.own.1 g hg'
 injection hh with hh
 exact hs.ne hc hh
theorem WrOn.mapped {Wd M : Nat} {sl sl' : Value} {W w w' : World} (ho : WrOn Wd sl sl' W w) (hM : W.heap.size ≤ M) (hWd : Wd ≤ W.heap.size) (hg : w.grownBy w' (some M)) : WrOn Wd sl sl' W w' := by
 have key : ∀ b, b < W.heap.size → w'.heap[b]? = w.heap[b]? := fun b hb => hg.block b (Nat.lt_of_lt_of_le hb ho.size) (fun hh => by injection hh with hh; omega)
 obtain ⟨a, b, c, d, e⟩ := ho.low
 exact ⟨⟨hg.os.trans a, hg.tape.trans b, hg.output.trans c, Nat.le_trans d hg.size, fun k hk => (key k (by omega)).trans (e k hk)⟩, fun b hb h1 h2 => (key b hb).trans (ho.kept b hb h1 h2), Nat.le_trans ho.size hg.size, ho.at_⟩
def wtN (l : List ByteArray) : Nat := (l.map (fun s => 12 * s.size + 16)).sum
theorem wtN_cons (s : ByteArray) (l : List ByteArray) : wtN (s :: l) = 12 * s.size + 16 + wtN l := by simp [wtN]
abbrev nmAt (xs : List ByteArray) (i : Nat) : ByteArray := rdOf ByteArray.empty xs (i : Int)
theorem nmAt_eq (xs : List ByteArray) (i : Nat) (hi : i < xs.length) : nmAt xs i = xs[i] := by
 show xs.getD ((i : Int)).toNat ByteArray.empty = _
 rw [show ((i : Int)).toNat = i from Int.toNat_natCast i, List.getD_eq_getElem?_getD, List.getElem?_eq_getElem hi]
 rfl
theorem drop_nm (xs : List ByteArray) (i : Nat) (hi : i < xs.length) : xs.drop i = nmAt xs i :: xs.drop (i + 1) := by
 rw [List.drop_eq_getElem_cons hi, nmAt_eq xs i hi]
theorem take_nm (xs : List ByteArray) (i : Nat) (hi : i < xs.length) : xs.take (i + 1) = xs.take i ++ [nmAt xs i] := by
 rw [nmAt_eq xs i hi, List.take_succ_eq_append_getElem hi]
theorem mem_nm (xs : List ByteArray) (i : Nat) (hi : i < xs.length) : nmAt xs i ∈ xs := by
 rw [nmAt_eq xs i hi]; exact List.getElem_mem hi
section
variable {free : Bool} {one : J → St → St} {seen ns : List ByteArray} {i : Nat} {nm : ByteArray} {y : J} {ys : List J} {st st5 : St}
theorem mW_A (h5 : (if i = 0 then st else putF free st [44]) = st5) (he : st5.e ≠ 0) : membersW free one seen i (nm :: ns) (y :: ys) st = st5 := by
 unfold membersW; simp only [h5, if_pos he]
theorem mW_B (h5 : (if i = 0 then st else putF free st [44]) = st5) (he : st5.e = 0) (hv : validD nm.data.toList = false) : membersW free one seen i (nm :: ns) (y :: ys) st = failF st5 47 := by
 unfold membersW; simp only [h5]; rw [if_neg (by simp [he]), if_pos hv]
theorem mW_C (h5 : (if i = 0 then st else putF free st [44]) = st5) (he : st5.e = 0) (hv : validD nm.data.toList = true) (hs : nm.data.toList ∈ seen.map (fun b => b.data.toList)) : membersW free one seen i (nm :: ns) (y :: ys) st = failF st5 45 := by
 unfold membersW; simp only [h5]; rw [if_neg (by simp [he]), if_neg (by simp [hv]), if_pos hs]
theorem mW_D (h5 : (if i = 0 then st else putF free st [44]) = st5) (he : st5.e = 0) (hv : validD nm.data.toList = true) (hs : ¬ nm.data.toList ∈ seen.map (fun b => b.data.toList)) : membersW free one seen i (nm :: ns) (y :: ys) st = membersW free one (seen ++ [nm]) (i + 1) ns ys (one y (putF free (putsF free st5 (quoteB nm)) [58])) := by
 rw [membersW]; simp only [h5]; rw [if_neg (by simp [he]), if_neg (by simp [hv]), if_neg hs]
end
theorem Sm.over {canon free : Bool} {a b m : St} (h : Sm canon m b) (hm : m = a) (he : a.e ≠ 0) : Sm canon a (putF free b [125]) := by
 have h1 := h.put free [125]
 rw [hm, putF_bad free a [125] he] at h1
 exact h1
theorem key_at (nm : ByteArray) (h : nm.size ≤ 288230376151711743) : keyOf Tryz.prog 9 (.string nm) = some (.string nm.data.toList) := Go.WideMaps.keyOf_string_mk Tryz.underlying9 (s := nm) (by unfold maxLen; omega)
set_option maxRecDepth 1000000 in
set_option maxHeartbeats 16000000 in
theorem members_calls (Wd : Nat) (free canon : Bool) (st : St) (sl : Value) (d : Int) (A2 A3 : Option Addr) (c2 c3 : Nat) (W : World) (wt : Nat) (ns : List ByteArray) (ys : List J) (hny : ns.length = ys.length) (r : Nat) (h : Wr Wd free st sl W) (hG : Gl Wd W) (hwt : wtN ns + wtI r ys + 2 ≤ wt) (hfit : Fit free st wt)
  (hsn : ∀ s, s ∈ ns → s.size ≤ 288230376151711743) (hsm : ∀ y, y ∈ ys → SmJ r y) (hln : canon = true → ∀ y, y ∈ ys → LnJ r y) (hF2 : Kd.F Kd.string W (okW Wd sl) A2 ns.length ns) (hc2 : ns.length ≤ c2) (hF3 : Kd.F k25 W (okW Wd sl) A3 ys.length ys) (hc3 : ys.length ≤ c3) (IH : WOK free canon r (wrap64 (d + 1))) :
  Calls Tryz.prog 149 #[ptr Wd, .agg #[.slice A2 ns.length c2, .slice A3 ys.length c3], .int .i64 d, .bool canon] W (VEnds Wd free canon st sl W wt (putF free (membersW free (valW free canon r) [] 0 ns ys (putF free st [123])) [125])) := by
 have H := am h
 have HL := am (Nat.le_of_lt h.lt)
 have HG := am hG
 have HF := am hfit
 have HSN := am hsn
 have HS := am hsm
 have HLN := am hln
 have HX2 := am hF2
 have HX := am hF3
 have hmax := Kd.F_max hF3
 unfold WOK at IH
 have HI := am IH
 have hmm := @run_makeMap Tryz.prog
 have HNY := am hny
 have hmax2 : ns.length ≤ 9223372036854775807 := by omega
 clear hny h hG hfit hsn hsm hln hF2 hF3 IH
 go_enter Tryz.func149, Tryz.ntmps149
 go_wp2_with (go_at_call 146; (with_reducible refine (put_calls Wd free st sl ⟨#[123]⟩ _ ?rm1 ?wr1).mono ?_); (case rm1 => exact HF.out.room (m := 1) (by omega) (by omega)); (case wr1 => exact H.out.below (by repeat (first | exact Below.refl _ _ | apply below_drewN | apply below_drew1 | apply below_alloc))); rintro e w1 ⟨rfl, sl1, hw, ho⟩; have HW1 := am hw; have HO1 := am ho; clear hw ho; have HE1 := am (show WrOn Wd sl sl1 W w1 from (WrOn.of_below HL.out (by repeat (first | exact Below.refl _ _ | apply below_drewN | apply below_drew1 | apply below_alloc))).trans HO1.out); have hbx := H.out.newblk (o := .cells #[.slice A2 ns.length c2, .slice A3 ys.length c3] 213 (0, 0)) (Nat.le_refl _) HO1.out (heap_alloc_new W _); have HMW := am (Nat.le_of_lt (lt_of_block hbx)); have BX2 := am (((below_alloc (Below.refl _ w1) (.map #[] 0)).block _ (lt_of_block hbx)).trans hbx); clear hbx; have x0 : (w1.alloc (.map #[] 0)).cell? ⟨W.heap.size, 0, none⟩ = some (.slice A2 ns.length c2) := (blk_cell BX2.out 0).trans rfl)
 go_loopg [17] (ns.length + 1) (fun g v17 wr => ∃ (i : Nat) (st2 : St) (sl2 : Value), v17 = .int .i64 (i : Int) ∧ i ≤ ns.length ∧ ns.length + 1 ≤ i + g ∧ Aside0 (Wr Wd free st2 sl2 wr) ∧ Aside0 (WrOn Wd sl sl2 W wr) ∧ Aside0 (wr.heap[W.heap.size]? = some (.cells #[.slice A2 ns.length c2, .slice A3 ys.length c3] 213 (0, 0))) ∧ Aside0 (Seen wr w1.heap.size (ns.take i)) ∧ Aside0 (∀ n, Fit free st (wt + n) → Fit free st2 (wtN (ns.drop i) + wtI r (ys.drop i) + 1 + n)) ∧ Aside0 (Sm canon (membersW free (valW free canon r) (ns.take i) i (ns.drop i) (ys.drop i) st2) (membersW free (valW free canon r) [] 0 ns ys (putF free st [123]))))
 case atStart => exact ⟨0, putF free st [123], sl1, rfl, by omega, by omega, ⟨HW1.out.below (by repeat (first | exact Below.refl _ _ | apply below_drewN | apply below_drew1 | apply below_alloc))⟩, ⟨HE1.out.trans (WrOn.of_below (Nat.le_of_lt HW1.out.lt) (by repeat (first | exact Below.refl _ _ | apply below_drewN | apply below_drew1 | apply below_alloc)))⟩, BX2, ⟨Seen.made w1⟩, ⟨fun n hn => hn.put [123] (by rw [List.drop_zero, List.drop_zero, List.length_singleton]; omega)⟩, ⟨Sm.refl _ _⟩⟩
 case round =>
  obtain ⟨i, st2, sl3, rfl, hi, hg, HW3, HO3, HB3, HSE3, HF3, HX3⟩ := hrel
  clear HW1 HO1 HE1 BX2 x0
  by_cases hlt : i < ns.length
  ·cases gk with
   | zero => omega
   | succ g =>
    have hlt2 : i < ys.length := by have := HNY.out; omega
    obtain ⟨ad, e8, q0⟩ := Kd.at_string (Kd.F_now (F_on HX2.out HO3.out)) (i : Int) (by omega) (by omega)
    subst e8
    replace q0 : wr.cell? (ad.add i) = some (.string (nmAt ns i)) := q0
    obtain ⟨ae, B2, k2, B3, k3, e9, _⟩ := F_elem (F_on HX.out HO3.out) i hlt2
    subst e9
    have HE9 := am (fun (w : World) (sl' : Value) (ho : WrOn Wd sl sl' W w) => F_elem (F_on HX.out ho) i hlt2)
    have HDR := am (drop_rd ys i hlt2)
    have HDN := am (drop_nm ns i hlt)
    have HTK := am (take_nm ns i hlt)
    have HSY := am (HS.out (rd_T25 ys i) (rd_mem ys i hlt2))
    have HLY := am (fun hc => HLN.out hc (rd_T25 ys i) (rd_mem ys i hlt2))
    have HNM := am (HSN.out (nmAt ns i) (mem_nm ns i hlt))
    have HWN := am (wrap_next i ns.length hlt hmax2)
    have p1 : (0 ≤ (i : Int)) = True := eq_true (by omega)
    have p2 : ((i : Int) < (ns.length : Int)) = True := eq_true (by omega)
    have p3 : ((i : Int) < (ys.length : Int)) = True := eq_true (by omega)
    have HX5 := am (show Sm canon (membersW free (valW free canon r) (ns.take i) i (nmAt ns i :: ns.drop (i + 1)) (rd_T25 ys i :: ys.drop (i + 1)) st2) (membersW free (valW free canon r) [] 0 ns ys (putF free st [123])) from by have := HX3.out; rw [HDR.out, HDN.out] at this; exact this)
    have HF5 := am (show ∀ n, Fit free st (wt + n) → Fit free st2 (1 + (12 * (nmAt ns i).size + 3 + (wtJ r (rd_T25 ys i) + (wtN (ns.drop (i + 1)) + wtI r (ys.drop (i + 1)) + 1 + n)))) from fun n hn => (HF3.out n hn).less (by rw [HDR.out, HDN.out, wtN_cons, wtI_cons]; omega))
    have HWT := am (wtJ_text r (rd_T25 ys i))
    have HL3 := am (Nat.le_of_lt HW3.out.lt)
    have HMW' := HMW
    have cr2 : wr.cell? ⟨Wd, 2, none⟩ = some (.int .i64 st2.e) := (blk_cell HW3.out.blk 2).trans rfl
    clear HX3 HF3 HDR HDN
    generalize rd_T25 ys (i : Int) = y at *
    generalize nmAt ns i = nm at *
    have HKEY := am (key_at nm HNM.out)
    by_cases hi0 : i = 0
    ·have c0 : decide ((0 : Int) < (i : Int)) = false := decide_eq_false (by omega)
     have c1' : ((0 : Int) < (i : Int)) = False := eq_false (by omega)
     have c2' : (0 < i) = False := eq_false (by omega)
     have c3' : decide (0 < i) = false := decide_eq_false (by omega)
     have H5 := am (show (if i = 0 then st2 else putF free st2 [44]) = st2 from if_pos hi0)
     have HF6 := am (show ∀ n, Fit free st (wt + n) → Fit free st2 (12 * nm.size + 3 + (wtJ r y + (wtN (ns.drop (i + 1)) + wtI r (ys.drop (i + 1)) + 1 + n))) from fun n hn => (HF5.out n hn).less (by omega))
     clear hi0 HF5
     by_cases he : st2.e = 0
     ·cases hv : validD nm.data.toList with
      | false =>
       have e0 : ((st2.e : Int) != 0) = false := by rw [he]; rfl
       have HER := am he
       clear he
       have HN := am (show (47 : Int) = ((47 : Nat) : Int) from rfl)
       have HV := am hv
       clear hv
       have HW5 := HW3
       have HO35 := HO3
       have HB5 := HB3
       have HSE5 := HSE3
       have HG5 := am (HG.out.on HO35.out)
       go_wp2_with (first | (go_at_call 116; (with_reducible refine (valid_calls nm _ false HV.out (by have := HNM.out; omega) ?tb).mono ?_); (case tb => exact HG5.out.tabs); rintro e w6 ⟨rfl, hb⟩; have HW6 := am (HW5.out.below hb); have HO6 := am (HO35.out.trans (WrOn.of_below (Nat.le_of_lt HW5.out.lt) hb)); have HN6 := am (WrOn.of_below (sl := sl3) (Nat.le_of_lt HW5.out.lt) hb); have HB6 := am (HW5.out.keepT HN6.out HB5.out (by decide) (by decide)); have HSE6 := am (HW5.out.keepM HN6.out HSE5.out); clear hb) | (go_at_call 144; (with_reducible refine (wfail_calls Wd free st2 sl3 47 47 HN.out _ ?wrf).mono ?_); (case wrf => exact HW6.out); rintro e w9 ⟨rfl, hw, ho⟩; have HW9 := am hw; have HO9 := am ho; clear hw ho))
       (try simp only [Exit.inBlock, Exit.then])
       refine ⟨rfl, .tuple #[], results_none rfl _ _ _, ?_⟩
       exact VEnds.of (Below.refl _ _) HL.out (HO6.out.trans HO9.out) HW9.out (HX5.out.over (mW_B H5.out HER.out HV.out) (failF_e _ _ (by decide))) (fun n hn => ((HF6.out n hn).failF 47).less (by omega))
      | true =>
       by_cases hsn : nm.data.toList ∈ (ns.take i).map (fun b => b.data.toList)
       ·have e0 : ((st2.e : Int) != 0) = false := by rw [he]; rfl
        have HER := am he
        clear he
        have HN := am (show (45 : Int) = ((45 : Nat) : Int) from rfl)
        have HV := am hv
        clear hv
        have HSN5 := am hsn
        clear hsn
        have HW5 := HW3
        have HO35 := HO3
        have HB5 := HB3
        have HSE5 := HSE3
        have HG5 := am (HG.out.on HO35.out)
        go_wp2_with (first | (go_at_call 116; (with_reducible refine (valid_calls nm _ true HV.out (by have := HNM.out; omega) ?tb).mono ?_); (case tb => exact HG5.out.tabs); rintro e w6 ⟨rfl, hb⟩; have HW6 := am (HW5.out.below hb); have HO6 := am (HO35.out.trans (WrOn.of_below (Nat.le_of_lt HW5.out.lt) hb)); have HN6 := am (WrOn.of_below (sl := sl3) (Nat.le_of_lt HW5.out.lt) hb); have HB6 := am (HW5.out.keepT HN6.out HB5.out (by decide) (by decide)); have HSE6 := am (HW5.out.keepM HN6.out HSE5.out); clear hb) | (at_lookup; obtain ⟨D, hD1, hD2, hD3⟩ := HSE6.out; refine wpList_lookup_own_int _ rfl _ _ 166 rfl 9 3 .i64 key9 Tryz.underlying166 Tryz.underlying3 (zero3 _) w1.heap.size (ns.take i).length D rfl hD2 (.string nm) (.string nm.data.toList) rfl HKEY.out ?_; intro cc hat hwc; rw [hD3 nm.data.toList, if_pos HSN5.out] at hat; injection hat with hat; injection hat with _ hat; subst hat; have HD1 := am hD1; have HD2 := am hD2; have HD3 := am hD3; clear hD1 hD2 hD3 hwc) | (go_at_call 144; (with_reducible refine (wfail_calls Wd free st2 sl3 45 45 HN.out _ ?wrf).mono ?_); (case wrf => exact HW6.out); rintro e w9 ⟨rfl, hw, ho⟩; have HW9 := am hw; have HO9 := am ho; clear hw ho))
        (try simp only [Exit.inBlock, Exit.then])
        refine ⟨rfl, .tuple #[], results_none rfl _ _ _, ?_⟩
        exact VEnds.of (Below.refl _ _) HL.out (HO6.out.trans HO9.out) HW9.out (HX5.out.over (mW_C H5.out HER.out HV.out HSN5.out) (failF_e _ _ (by decide))) (fun n hn => ((HF6.out n hn).failF 45).less (by omega))
       ·have e0 : ((st2.e : Int) != 0) = false := by rw [he]; rfl
        have HER := am he
        clear he
        have HV := am hv
        have HSN5 := am hsn
        clear hv hsn
        have HF8 := am (show ∀ n, Fit free st (wt + n) → Fit free (putsF free st2 (quoteB nm)) (1 + (wtJ r y + (wtN (ns.drop (i + 1)) + wtI r (ys.drop (i + 1)) + 1 + n))) from fun n hn => (HF6.out n hn).quote nm (by omega))
        have HF9 := am (show ∀ n, Fit free st (wt + n) → Fit free (putF free (putsF free st2 (quoteB nm)) [58]) (wtJ r y + (wtN (ns.drop (i + 1)) + wtI r (ys.drop (i + 1)) + 1 + n)) from fun n hn => (HF8.out n hn).put [58] (by rw [List.length_singleton]; omega))
        have HX6 := am (show Sm canon (membersW free (valW free canon r) (ns.take (i + 1)) (i + 1) (ns.drop (i + 1)) (ys.drop (i + 1)) (valW free canon r y (putF free (putsF free st2 (quoteB nm)) [58]))) (membersW free (valW free canon r) [] 0 ns ys (putF free st [123])) from by have := HX5.out; rw [mW_D H5.out HER.out HV.out HSN5.out] at this; rw [HTK.out]; exact this)
        have HR8 := am ((HF6.out 0 HF.out).room (m := 12 * nm.size + 14) (by have := HWT.out; omega) (by have := HNM.out; omega))
        have HR9 := am ((HF8.out 0 HF.out).room (m := 1) (by omega) (by omega))
        have htl : (ns.take i).length ≤ 9223372036854775806 := by rw [List.length_take]; omega
        clear HX5
        have HW5 := HW3
        have HO35 := HO3
        have HB5 := HB3
        have HSE5 := HSE3
        have HG5 := am (HG.out.on HO35.out)
        go_wp2_with (first | (go_at_call 116; (with_reducible refine (valid_calls nm _ true HV.out (by have := HNM.out; omega) ?tb).mono ?_); (case tb => exact HG5.out.tabs); rintro e w6 ⟨rfl, hb⟩; have HW6 := am (HW5.out.below hb); have HO6 := am (HO35.out.trans (WrOn.of_below (Nat.le_of_lt HW5.out.lt) hb)); have HN6 := am (WrOn.of_below (sl := sl3) (Nat.le_of_lt HW5.out.lt) hb); have HB6 := am (HW5.out.keepT HN6.out HB5.out (by decide) (by decide)); have HSE6 := am (HW5.out.keepM HN6.out HSE5.out); clear hb) | (at_lookup; obtain ⟨D, hD1, hD2, hD3⟩ := HSE6.out; refine wpList_lookup_own_int _ rfl _ _ 166 rfl 9 3 .i64 key9 Tryz.underlying166 Tryz.underlying3 (zero3 _) w1.heap.size (ns.take i).length D rfl hD2 (.string nm) (.string nm.data.toList) rfl HKEY.out ?_; intro cc hat hwc; rw [hD3 nm.data.toList, if_neg HSN5.out] at hat; injection hat with hat; injection hat with _ hat; subst hat; have HD1 := am hD1; have HD2 := am hD2; have HD3 := am hD3; clear hD1 hD2 hD3 hwc) | (at_mapUpdate; refine wpList_mapUpdate_own _ rfl _ _ _ 166 rfl 9 3 key9 Tryz.underlying166 _ w1.heap.size (ns.take i).length _ rfl HD2.out (by unfold maxLen; omega) _ _ _ rfl rfl HKEY.out _ [] (plainElem_int Tryz.underlying3 (by decide)) ?_; intro w7 hown7 hg7; have HW7 := am (HW6.out.mapped HSE6.out hg7); have HO7 := am (HO6.out.mapped HMW.out HL.out hg7); have HB7 := am (blk_grownM HB6.out HSE6.out hg7); have HSE7 := am (show Seen w7 w1.heap.size (ns.take (i + 1)) from HTK.out ▸ seen_put (W := w6) nm HD1.out HD3.out hown7); clear hown7 hg7) | (go_at_call 147; (with_reducible refine (quote_calls Wd free st2 sl3 nm _ HNM.out ?rm8 ?wr8).mono ?_); (case rm8 => exact HR8.out); (case wr8 => exact HW7.out); rintro e w8 ⟨rfl, sl8, hw, ho⟩; have HW8 := am hw; have HO8 := am (HO7.out.trans ho); have HB8 := am (HW7.out.keepT ho HB7.out (by decide) (by decide)); have HSE8 := am (HW7.out.keepM ho HSE7.out); clear hw ho) | (go_at_call 146; (with_reducible refine (put_calls Wd free (putsF free st2 (quoteB nm)) sl8 ⟨#[58]⟩ _ ?rm9 ?wr9).mono ?_); (case rm9 => exact HR9.out); (case wr9 => exact HW8.out); rintro e w9 ⟨rfl, sl9, hw, ho⟩; have HW9 := am hw; have HO9 := am (HO8.out.trans ho); have HB9 := am (HW8.out.keepT ho HB8.out (by decide) (by decide)); have HSE9 := am (HW8.out.keepM ho HSE8.out); clear hw ho; have x9 : w9.cell? ⟨W.heap.size, 1, none⟩ = some (.slice (some ae) ys.length c3) := (blk_cell HB9.out 1).trans rfl; obtain ⟨ae', B2', k2', B3', k3', e9, z0, z1, z2, z3, m2, g2, m3, g3⟩ := HE9.out w9 sl9 HO9.out; injection e9 with e9; subst e9; have HM2 := am m2; have HM3 := am m3; have HG2 := am g2; have HG3 := am g3; clear m2 m3 g2 g3) | (go_at_call 110; (with_reducible refine (HI.out Wd (putF free (putsF free st2 (quoteB nm)) [58]) sl9 _ y B2' B3' k2' k3' ?w10 ?f10 HSY.out HLY.out ?s102 HM2.out ?s103 HM3.out ?g10).mono ?_); (case w10 => exact HW9.out); (case f10 => exact (HF9.out 0 HF.out).less (by omega)); (case s102 => exact HG2.out); (case s103 => exact HG3.out); (case g10 => exact HG.out.on HO9.out); rintro e w10 ⟨rfl, st10, sl10, hs, hf, hw, ho⟩; have HS10 := am hs; have HV10 := am hf; have HW10 := am hw; have HO10 := am (HO9.out.trans ho); have HB10 := am (HW9.out.keepT ho HB9.out (by decide) (by decide)); have HSE10 := am (HW9.out.keepM ho HSE9.out); clear hs hf hw ho))
        go_roundg g
        case measure => omega
        case rel => exact ⟨i + 1, st10, sl10, (by first | exact congrArg (Value.int .i64) HWN.out | exact congrArg (Value.int .i64) (show (i : Int) + 1 = ((i + 1 : Nat) : Int) by omega)), by omega, by omega, HW10, HO10, HB10, HSE10, ⟨fun n hn => HV10.out _ (HF9.out n hn)⟩, ⟨(HS10.out.members free _ _ _ _).trans HX6.out⟩⟩
     ·have e0 : ((st2.e : Int) != 0) = true := by
       have : ¬ (st2.e : Int) = 0 := by omega
       simp only [bne_iff_ne, ne_eq]
       exact this
      have HER := am he
      clear he
      have HW5 := HW3
      have HO35 := HO3
      have HB5 := HB3
      have HSE5 := HSE3
      have HG5 := am (HG.out.on HO35.out)
      go_wp2
      (try simp only [Exit.inBlock, Exit.then])
      refine ⟨rfl, .tuple #[], results_none rfl _ _ _, ?_⟩
      exact VEnds.of (Below.refl _ _) HL.out HO35.out HW5.out (HX5.out.over (mW_A H5.out HER.out) HER.out) (fun n hn => (HF6.out n hn).less (by omega))
    ·have c0 : decide ((0 : Int) < (i : Int)) = true := decide_eq_true (by omega)
     have H5 := am (show (if i = 0 then st2 else putF free st2 [44]) = putF free st2 [44] from if_neg hi0)
     have HF6 := am (show ∀ n, Fit free st (wt + n) → Fit free (putF free st2 [44]) (12 * nm.size + 3 + (wtJ r y + (wtN (ns.drop (i + 1)) + wtI r (ys.drop (i + 1)) + 1 + n))) from fun n hn => (HF5.out n hn).put [44] (by rw [List.length_singleton]; omega))
     have HR5 := am ((HF5.out 0 HF.out).room (m := 1) (by omega) (by omega))
     clear HF5
     by_cases he : (putF free st2 [44]).e = 0
     ·cases hv : validD nm.data.toList with
      | false =>
       have e0 : (((putF free st2 [44]).e : Int) != 0) = false := by rw [he]; rfl
       have HER := am he
       clear he
       have HN := am (show (47 : Int) = ((47 : Nat) : Int) from rfl)
       have HV := am hv
       clear hv
       go_wp2_with (first | (go_at_call 146; (with_reducible refine (put_calls Wd free st2 sl3 ⟨#[44]⟩ _ ?rm5 ?wr5).mono ?_); (case rm5 => exact HR5.out); (case wr5 => exact HW3.out); rintro e w5 ⟨rfl, sl5, hw, ho⟩; have HW5 := am hw; have HO5 := am ho; clear hw ho; have HO35 := am (HO3.out.trans HO5.out); have HB5 := am (HW3.out.keepT HO5.out HB3.out (by decide) (by decide)); have HSE5 := am (HW3.out.keepM HO5.out HSE3.out); have HG5 := am (HG.out.on HO35.out); have x2 : w5.cell? ⟨Wd, 2, none⟩ = some (.int .i64 (putF free st2 [44]).e) := (blk_cell HW5.out.blk 2).trans rfl) | (go_at_call 116; (with_reducible refine (valid_calls nm _ false HV.out (by have := HNM.out; omega) ?tb).mono ?_); (case tb => exact HG5.out.tabs); rintro e w6 ⟨rfl, hb⟩; have HW6 := am (HW5.out.below hb); have HO6 := am (HO35.out.trans (WrOn.of_below (Nat.le_of_lt HW5.out.lt) hb)); have HN6 := am (WrOn.of_below (sl := sl5) (Nat.le_of_lt HW5.out.lt) hb); have HB6 := am (HW5.out.keepT HN6.out HB5.out (by decide) (by decide)); have HSE6 := am (HW5.out.keepM HN6.out HSE5.out); clear hb) | (go_at_call 144; (with_reducible refine (wfail_calls Wd free (putF free st2 [44]) sl5 47 47 HN.out _ ?wrf).mono ?_); (case wrf => exact HW6.out); rintro e w9 ⟨rfl, hw, ho⟩; have HW9 := am hw; have HO9 := am ho; clear hw ho))
       (try simp only [Exit.inBlock, Exit.then])
       refine ⟨rfl, .tuple #[], results_none rfl _ _ _, ?_⟩
       exact VEnds.of (Below.refl _ _) HL.out (HO6.out.trans HO9.out) HW9.out (HX5.out.over (mW_B H5.out HER.out HV.out) (failF_e _ _ (by decide))) (fun n hn => ((HF6.out n hn).failF 47).less (by omega))
      | true =>
       by_cases hsn : nm.data.toList ∈ (ns.take i).map (fun b => b.data.toList)
       ·have e0 : (((putF free st2 [44]).e : Int) != 0) = false := by rw [he]; rfl
        have HER := am he
        clear he
        have HN := am (show (45 : Int) = ((45 : Nat) : Int) from rfl)
        have HV := am hv
        clear hv
        have HSN5 := am hsn
        clear hsn
        go_wp2_with (first | (go_at_call 146; (with_reducible refine (put_calls Wd free st2 sl3 ⟨#[44]⟩ _ ?rm5 ?wr5).mono ?_); (case rm5 => exact HR5.out); (case wr5 => exact HW3.out); rintro e w5 ⟨rfl, sl5, hw, ho⟩; have HW5 := am hw; have HO5 := am ho; clear hw ho; have HO35 := am (HO3.out.trans HO5.out); have HB5 := am (HW3.out.keepT HO5.out HB3.out (by decide) (by decide)); have HSE5 := am (HW3.out.keepM HO5.out HSE3.out); have HG5 := am (HG.out.on HO35.out); have x2 : w5.cell? ⟨Wd, 2, none⟩ = some (.int .i64 (putF free st2 [44]).e) := (blk_cell HW5.out.blk 2).trans rfl) | (go_at_call 116; (with_reducible refine (valid_calls nm _ true HV.out (by have := HNM.out; omega) ?tb).mono ?_); (case tb => exact HG5.out.tabs); rintro e w6 ⟨rfl, hb⟩; have HW6 := am (HW5.out.below hb); have HO6 := am (HO35.out.trans (WrOn.of_below (Nat.le_of_lt HW5.out.lt) hb)); have HN6 := am (WrOn.of_below (sl := sl5) (Nat.le_of_lt HW5.out.lt) hb); have HB6 := am (HW5.out.keepT HN6.out HB5.out (by decide) (by decide)); have HSE6 := am (HW5.out.keepM HN6.out HSE5.out); clear hb) | (at_lookup; obtain ⟨D, hD1, hD2, hD3⟩ := HSE6.out; refine wpList_lookup_own_int _ rfl _ _ 166 rfl 9 3 .i64 key9 Tryz.underlying166 Tryz.underlying3 (zero3 _) w1.heap.size (ns.take i).length D rfl hD2 (.string nm) (.string nm.data.toList) rfl HKEY.out ?_; intro cc hat hwc; rw [hD3 nm.data.toList, if_pos HSN5.out] at hat; injection hat with hat; injection hat with _ hat; subst hat; have HD1 := am hD1; have HD2 := am hD2; have HD3 := am hD3; clear hD1 hD2 hD3 hwc) | (go_at_call 144; (with_reducible refine (wfail_calls Wd free (putF free st2 [44]) sl5 45 45 HN.out _ ?wrf).mono ?_); (case wrf => exact HW6.out); rintro e w9 ⟨rfl, hw, ho⟩; have HW9 := am hw; have HO9 := am ho; clear hw ho))
        (try simp only [Exit.inBlock, Exit.then])
        refine ⟨rfl, .tuple #[], results_none rfl _ _ _, ?_⟩
        exact VEnds.of (Below.refl _ _) HL.out (HO6.out.trans HO9.out) HW9.out (HX5.out.over (mW_C H5.out HER.out HV.out HSN5.out) (failF_e _ _ (by decide))) (fun n hn => ((HF6.out n hn).failF 45).less (by omega))
       ·have e0 : (((putF free st2 [44]).e : Int) != 0) = false := by rw [he]; rfl
        have HER := am he
        clear he
        have HV := am hv
        have HSN5 := am hsn
        clear hv hsn
        have HF8 := am (show ∀ n, Fit free st (wt + n) → Fit free (putsF free (putF free st2 [44]) (quoteB nm)) (1 + (wtJ r y + (wtN (ns.drop (i + 1)) + wtI r (ys.drop (i + 1)) + 1 + n))) from fun n hn => (HF6.out n hn).quote nm (by omega))
        have HF9 := am (show ∀ n, Fit free st (wt + n) → Fit free (putF free (putsF free (putF free st2 [44]) (quoteB nm)) [58]) (wtJ r y + (wtN (ns.drop (i + 1)) + wtI r (ys.drop (i + 1)) + 1 + n)) from fun n hn => (HF8.out n hn).put [58] (by rw [List.length_singleton]; omega))
        have HX6 := am (show Sm canon (membersW free (valW free canon r) (ns.take (i + 1)) (i + 1) (ns.drop (i + 1)) (ys.drop (i + 1)) (valW free canon r y (putF free (putsF free (putF free st2 [44]) (quoteB nm)) [58]))) (membersW free (valW free canon r) [] 0 ns ys (putF free st [123])) from by have := HX5.out; rw [mW_D H5.out HER.out HV.out HSN5.out] at this; rw [HTK.out]; exact this)
        have HR8 := am ((HF6.out 0 HF.out).room (m := 12 * nm.size + 14) (by have := HWT.out; omega) (by have := HNM.out; omega))
        have HR9 := am ((HF8.out 0 HF.out).room (m := 1) (by omega) (by omega))
        have htl : (ns.take i).length ≤ 9223372036854775806 := by rw [List.length_take]; omega
        clear HX5
        go_wp2_with (first | (go_at_call 146; (with_reducible refine (put_calls Wd free st2 sl3 ⟨#[44]⟩ _ ?rm5 ?wr5).mono ?_); (case rm5 => exact HR5.out); (case wr5 => exact HW3.out); rintro e w5 ⟨rfl, sl5, hw, ho⟩; have HW5 := am hw; have HO5 := am ho; clear hw ho; have HO35 := am (HO3.out.trans HO5.out); have HB5 := am (HW3.out.keepT HO5.out HB3.out (by decide) (by decide)); have HSE5 := am (HW3.out.keepM HO5.out HSE3.out); have HG5 := am (HG.out.on HO35.out); have x2 : w5.cell? ⟨Wd, 2, none⟩ = some (.int .i64 (putF free st2 [44]).e) := (blk_cell HW5.out.blk 2).trans rfl) | (go_at_call 116; (with_reducible refine (valid_calls nm _ true HV.out (by have := HNM.out; omega) ?tb).mono ?_); (case tb => exact HG5.out.tabs); rintro e w6 ⟨rfl, hb⟩; have HW6 := am (HW5.out.below hb); have HO6 := am (HO35.out.trans (WrOn.of_below (Nat.le_of_lt HW5.out.lt) hb)); have HN6 := am (WrOn.of_below (sl := sl5) (Nat.le_of_lt HW5.out.lt) hb); have HB6 := am (HW5.out.keepT HN6.out HB5.out (by decide) (by decide)); have HSE6 := am (HW5.out.keepM HN6.out HSE5.out); clear hb) | (at_lookup; obtain ⟨D, hD1, hD2, hD3⟩ := HSE6.out; refine wpList_lookup_own_int _ rfl _ _ 166 rfl 9 3 .i64 key9 Tryz.underlying166 Tryz.underlying3 (zero3 _) w1.heap.size (ns.take i).length D rfl hD2 (.string nm) (.string nm.data.toList) rfl HKEY.out ?_; intro cc hat hwc; rw [hD3 nm.data.toList, if_neg HSN5.out] at hat; injection hat with hat; injection hat with _ hat; subst hat; have HD1 := am hD1; have HD2 := am hD2; have HD3 := am hD3; clear hD1 hD2 hD3 hwc) | (at_mapUpdate; refine wpList_mapUpdate_own _ rfl _ _ _ 166 rfl 9 3 key9 Tryz.underlying166 _ w1.heap.size (ns.take i).length _ rfl HD2.out (by unfold maxLen; omega) _ _ _ rfl rfl HKEY.out _ [] (plainElem_int Tryz.underlying3 (by decide)) ?_; intro w7 hown7 hg7; have HW7 := am (HW6.out.mapped HSE6.out hg7); have HO7 := am (HO6.out.mapped HMW.out HL.out hg7); have HB7 := am (blk_grownM HB6.out HSE6.out hg7); have HSE7 := am (show Seen w7 w1.heap.size (ns.take (i + 1)) from HTK.out ▸ seen_put (W := w6) nm HD1.out HD3.out hown7); clear hown7 hg7) | (go_at_call 147; (with_reducible refine (quote_calls Wd free (putF free st2 [44]) sl5 nm _ HNM.out ?rm8 ?wr8).mono ?_); (case rm8 => exact HR8.out); (case wr8 => exact HW7.out); rintro e w8 ⟨rfl, sl8, hw, ho⟩; have HW8 := am hw; have HO8 := am (HO7.out.trans ho); have HB8 := am (HW7.out.keepT ho HB7.out (by decide) (by decide)); have HSE8 := am (HW7.out.keepM ho HSE7.out); clear hw ho) | (go_at_call 146; (with_reducible refine (put_calls Wd free (putsF free (putF free st2 [44]) (quoteB nm)) sl8 ⟨#[58]⟩ _ ?rm9 ?wr9).mono ?_); (case rm9 => exact HR9.out); (case wr9 => exact HW8.out); rintro e w9 ⟨rfl, sl9, hw, ho⟩; have HW9 := am hw; have HO9 := am (HO8.out.trans ho); have HB9 := am (HW8.out.keepT ho HB8.out (by decide) (by decide)); have HSE9 := am (HW8.out.keepM ho HSE8.out); clear hw ho; have x9 : w9.cell? ⟨W.heap.size, 1, none⟩ = some (.slice (some ae) ys.length c3) := (blk_cell HB9.out 1).trans rfl; obtain ⟨ae', B2', k2', B3', k3', e9, z0, z1, z2, z3, m2, g2, m3, g3⟩ := HE9.out w9 sl9 HO9.out; injection e9 with e9; subst e9; have HM2 := am m2; have HM3 := am m3; have HG2 := am g2; have HG3 := am g3; clear m2 m3 g2 g3) | (go_at_call 110; (with_reducible refine (HI.out Wd (putF free (putsF free (putF free st2 [44]) (quoteB nm)) [58]) sl9 _ y B2' B3' k2' k3' ?w10 ?f10 HSY.out HLY.out ?s102 HM2.out ?s103 HM3.out ?g10).mono ?_); (case w10 => exact HW9.out); (case f10 => exact (HF9.out 0 HF.out).less (by omega)); (case s102 => exact HG2.out); (case s103 => exact HG3.out); (case g10 => exact HG.out.on HO9.out); rintro e w10 ⟨rfl, st10, sl10, hs, hf, hw, ho⟩; have HS10 := am hs; have HV10 := am hf; have HW10 := am hw; have HO10 := am (HO9.out.trans ho); have HB10 := am (HW9.out.keepT ho HB9.out (by decide) (by decide)); have HSE10 := am (HW9.out.keepM ho HSE9.out); clear hs hf hw ho))
        go_roundg g
        case measure => omega
        case rel => exact ⟨i + 1, st10, sl10, (by first | exact congrArg (Value.int .i64) HWN.out | exact congrArg (Value.int .i64) (show (i : Int) + 1 = ((i + 1 : Nat) : Int) by omega)), by omega, by omega, HW10, HO10, HB10, HSE10, ⟨fun n hn => HV10.out _ (HF9.out n hn)⟩, ⟨(HS10.out.members free _ _ _ _).trans HX6.out⟩⟩
     ·have e0 : (((putF free st2 [44]).e : Int) != 0) = true := by
       have : ¬ ((putF free st2 [44]).e : Int) = 0 := by omega
       simp only [bne_iff_ne, ne_eq]
       exact this
      have HER := am he
      clear he
      go_wp2_with (first | (go_at_call 146; (with_reducible refine (put_calls Wd free st2 sl3 ⟨#[44]⟩ _ ?rm5 ?wr5).mono ?_); (case rm5 => exact HR5.out); (case wr5 => exact HW3.out); rintro e w5 ⟨rfl, sl5, hw, ho⟩; have HW5 := am hw; have HO5 := am ho; clear hw ho; have HO35 := am (HO3.out.trans HO5.out); have HB5 := am (HW3.out.keepT HO5.out HB3.out (by decide) (by decide)); have HSE5 := am (HW3.out.keepM HO5.out HSE3.out); have HG5 := am (HG.out.on HO35.out); have x2 : w5.cell? ⟨Wd, 2, none⟩ = some (.int .i64 (putF free st2 [44]).e) := (blk_cell HW5.out.blk 2).trans rfl))
      (try simp only [Exit.inBlock, Exit.then])
      refine ⟨rfl, .tuple #[], results_none rfl _ _ _, ?_⟩
      exact VEnds.of (Below.refl _ _) HL.out HO35.out HW5.out (HX5.out.over (mW_A H5.out HER.out) HER.out) (fun n hn => (HF6.out n hn).less (by omega))
  ·have p2 : ((i : Int) < (ns.length : Int)) = False := eq_false (by omega)
   have hie : ns.drop i = [] := List.drop_eq_nil_of_le (by omega)
   have hie2 : ys.drop i = [] := List.drop_eq_nil_of_le (by have := HNY.out; omega)
   have HX5 := am (show Sm canon st2 (membersW free (valW free canon r) [] 0 ns ys (putF free st [123])) from by have := HX3.out; rw [hie, hie2] at this; exact this)
   have HF5 := am (show ∀ n, Fit free st (wt + n) → Fit free st2 (1 + n) from fun n hn => (HF3.out n hn).less (by omega))
   clear hie hie2 HX3 HF3
   go_wp2_with (go_at_call 146; (with_reducible refine (put_calls Wd free st2 sl3 ⟨#[125]⟩ _ ?rm9 ?wr9).mono ?_); (case rm9 => exact (HF5.out 0 HF.out).room (m := 1) (by omega) (by omega)); (case wr9 => exact HW3.out); rintro e w9 ⟨rfl, sl9, hw, ho⟩; have HW9 := am hw; have HO9 := am ho; clear hw ho)
   (try simp only [Exit.inBlock, Exit.then])
   refine ⟨rfl, .tuple #[], results_none rfl _ _ _, ?_⟩
   exact VEnds.of (Below.refl _ _) HL.out (HO3.out.trans HO9.out) HW9.out (HX5.out.put free [125]) (fun n hn => (HF5.out n hn).put [125] (by rw [List.length_singleton]; omega))
end Go.Proofs.YtpdelcbkcebkpaaGreatDoor.X
namespace Go.Proofs.YtpdelcbkcebkpaaGreatDoor.X
open Go.RowKit Go.Lib Go.Proofs.YtpdelcbkcebkpaaGreatDoorW.PrintWords Go.Proofs.YtpdelcbkcebkpaaGreatDoorW.PrintLast Go.Proofs.YtpdelcbkcebkpaaGreatDoorW.PrintMore
def SortedOK : Prop :=
 ∀ (W : World) (ok : Nat → Prop) (A2 A3 : Option Addr) (c2 c3 : Nat) (ns : List ByteArray) (ys : List J), ns.length = ys.length → ns.length ≤ 1000000 → Kd.F Kd.string W ok A2 ns.length ns → ns.length ≤ c2 → Kd.F k25 W ok A3 ys.length ys → ys.length ≤ c3 →
  Calls Tryz.prog 148 #[.agg #[.slice A2 ns.length c2, .slice A3 ys.length c3]] W fun x W' =>
   ∃ (B2 B3 : Option Addr) (k2 k3 : Nat) (ns' : List ByteArray) (ys' : List J), x = .returned (.agg #[.slice B2 ns'.length k2, .slice B3 ys'.length k3]) ∧ Below W.heap.size W W' ∧ ns'.length = ys'.length ∧ ns'.length ≤ k2 ∧ ys'.length ≤ k3 ∧ (ns'.zip ys').Perm (ns.zip ys) ∧
    (ns.Nodup → ns' = namesOf true ns ys ∧ ys' = itemsOf true ns ys) ∧ Kd.F Kd.string W' (fun k => ok k ∨ W.heap.size ≤ k) B2 ns'.length ns' ∧ Kd.F k25 W' (fun k => ok k ∨ W.heap.size ≤ k) B3 ys'.length ys'
theorem insF_perm (x : ByteArray × J) : ∀ l, (insF x l).Perm (x :: l)
 | [] => .refl _
 | y :: l => by
  unfold insF
  split
  ·exact ((insF_perm x l).cons y).trans (.swap _ _ _)
  ·exact .refl _
theorem sortF_perm' : ∀ (l a : List (ByteArray × J)), (l.foldl (fun a x => insF x a) a).Perm (a ++ l)
 | [], a => by simp
 | x :: l, a => by
  refine (sortF_perm' l (insF x a)).trans (((insF_perm x a).append_right l).trans ?_)
  simp only [List.cons_append]
  exact List.perm_middle.symm
theorem sortF_perm (l : List (ByteArray × J)) : (sortF l).Perm l := by
 have := sortF_perm' l []
 simpa [sortF] using this
theorem map_fst_zip {ns : List ByteArray} {ys : List J} (h : ns.length = ys.length) : (ns.zip ys).map Prod.fst = ns := List.map_fst_zip (by omega)
theorem map_snd_zip {ns : List ByteArray} {ys : List J} (h : ns.length = ys.length) : (ns.zip ys).map Prod.snd = ys := List.map_snd_zip (by omega)
theorem namesOf_len {ns : List ByteArray} {ys : List J} (c : Bool) (h : ns.length = ys.length) : (namesOf c ns ys).length = (itemsOf c ns ys).length := by
 cases c with
 | false => exact h
 | true => simp [namesOf, itemsOf]
theorem namesOf_perm {ns : List ByteArray} {ys : List J} (h : ns.length = ys.length) : (namesOf true ns ys).Perm ns := by
 have := (sortF_perm (ns.zip ys)).map Prod.fst
 rw [map_fst_zip h] at this
 exact this
theorem order_any (free : Bool) {one : J → St → St} (ho : Quits one) {ns ns' : List ByteArray} {ys ys' : List J} (a : St) (h : ns.length = ys.length) (h' : ns'.length = ys'.length) (hp : (ns'.zip ys').Perm (ns.zip ys)) (hn : ns.Nodup → ns' = namesOf true ns ys ∧ ys' = itemsOf true ns ys) :
  Sm true (putF free (membersW free one [] 0 ns' ys' a) [125]) (putF free (membersW free one [] 0 (namesOf true ns ys) (itemsOf true ns ys) a) [125]) := by
 by_cases hd : ns.Nodup
 ·obtain ⟨h1, h2⟩ := hn hd
  rw [h1, h2]
  exact Sm.refl _ _
 ·have p1 : ns'.Perm ns := by
   have := hp.map Prod.fst
   rw [map_fst_zip h, map_fst_zip h'] at this
   exact this
  have e1 := membersW_twice free ho ns' ys' [] 0 a h' List.nodup_nil (fun hh => hd (p1.nodup_iff.1 hh))
  have e2 := membersW_twice free ho (namesOf true ns ys) (itemsOf true ns ys) [] 0 a (namesOf_len true h) List.nodup_nil (fun hh => hd ((namesOf_perm h).nodup_iff.1 hh))
  rw [putF_bad _ _ _ e1, putF_bad _ _ _ e2]
  exact .inr ⟨rfl, e1, e2⟩
theorem VEnds.from {Wd : Nat} {free canon : Bool} {st tg tg' : St} {sl : Value} {W w0 w1 : World} {wt : Nat} {x : Ending} (h : VEnds Wd free canon st sl w0 wt tg' x w1) (hb : Below W.heap.size W w0) (hW : Wd ≤ W.heap.size) (hs : Sm canon tg' tg) : VEnds Wd free canon st sl W wt tg x w1 := by
 obtain ⟨rfl, st', sl', h1, h2, h3, h4⟩ := h
 exact VEnds.of hb hW h4 h3 (h1.trans hs) h2
set_option maxRecDepth 1000000 in
set_option maxHeartbeats 4000000 in
theorem value_obj (Wd : Nat) (free : Bool) (st : St) (sl : Value) (d : Int) (f1 : ByteArray) (A2 A3 : Option Addr) (n2 c2 n3 c3 : Nat) (W : World) (wt : Nat) (h : Wr Wd free st sl W) (l2 : List ByteArray) (l3 : List J) (hn2 : n2 = l2.length) (hn3 : n3 = l3.length) (hny : l2.length = l3.length) (r : Nat) (he : st.e = 0) (h1 : ¬ (32 : Int) < d) (h2 : ¬ (32 : Int) ≤ d) (hok : nodeOK 6 f1 n2 n3 = true) (hG : Gl Wd W) (hwt : wtN l2 + wtI r l3 + 2 ≤ wt) (hfit : Fit free st wt) (hsn : ∀ s, s ∈ l2 → s.size ≤ 288230376151711743) (hsm : ∀ y, y ∈ l3 → SmJ r y) (hln : false = true → l3.length ≤ 1000000 ∧ ∀ y, y ∈ l3 → LnJ r y) (hF2 : Kd.F Kd.string W (okW Wd sl) A2 n2 l2) (hc2 : n2 ≤ c2) (hF3 : Kd.F k25 W (okW Wd sl) A3 n3 l3) (hc3 : n3 ≤ c3) (IH : WOK free false r (wrap64 (d + 1))) :
  Calls Tryz.prog 110 #[ptr Wd, jVal 6 f1 A2 A3 n2 c2 n3 c3, .int .i64 d, .bool false] W (VEnds Wd free false st sl W wt (putF free (membersW free (valW free false r) [] 0 l2 l3 (putF free st [123])) [125])) := by
 have H := am h
 have HL := am (Nat.le_of_lt h.lt)
 have cw2 : ∀ o : Obj, (W.alloc o).cell? ⟨Wd, 2, none⟩ = some (.int .i64 st.e) := fun o => (World.cell?_of_block (Below.block (below_alloc (Below.refl _ _) o) _ h.lt)).trans ((blk_cell h.blk 2).trans rfl)
 clear h
 have e0 : ((st.e : Int) != 0) = false := by rw [he]; rfl
 subst hn2
 subst hn3
 have b1 : decide ((32 : Int) < d) = false := decide_eq_false h1
 have b2 : decide ((32 : Int) ≤ d) = false := decide_eq_false h2
 have HOK := am hok
 have HG := am hG
 have HF := am hfit
 have HSN := am hsn
 have HS := am hsm
 have HLN := am hln
 have HX2 := am hF2
 have HX := am hF3
 have HI := am IH
 have HNY := am hny
 clear he hok hG hfit hsn hsm hln hF2 hF3 IH hny
 have ta := is_84
 have tb := no_84_78
 have tc := no_84_80
 have td := no_84_82
 go_enter Tryz.func110, Tryz.ntmps110
 go_wp2_with (first | (go_at_call 145; (with_reducible refine (node_yes6 f1 A2 A3 l2.length c2 l3.length c3 _ HOK.out).mono ?_); rintro e w1 ⟨rfl, hb⟩; have HB1 := am (show Below W.heap.size W w1 from below_step (by repeat (first | exact Below.refl _ _ | apply below_drewN | apply below_drew1 | apply below_alloc)) hb); clear hb) | (go_at_call 149; (with_reducible refine (members_calls Wd free false st sl d A2 A3 c2 c3 _ wt l2 l3 HNY.out r ?wm ?gm hwt HF.out HSN.out HS.out (fun h => by cases h) ?f2 hc2 ?f3 hc3 HI.out).mono ?_); (case wm => exact H.out.below (by repeat (first | exact HB1.out | exact Below.refl _ _ | apply below_drewN | apply below_drew1 | apply below_alloc | refine below_set ?_ HB1.out.size))); (case gm => exact HG.out.below (by repeat (first | exact HB1.out | exact Below.refl _ _ | apply below_drewN | apply below_drew1 | apply below_alloc | refine below_set ?_ HB1.out.size)) HL.out); (case f2 => exact Kd.F_below HX2.out (by repeat (first | exact HB1.out | exact Below.refl _ _ | apply below_drewN | apply below_drew1 | apply below_alloc | refine below_set ?_ HB1.out.size))); (case f3 => exact Kd.F_below HX.out (by repeat (first | exact HB1.out | exact Below.refl _ _ | apply below_drewN | apply below_drew1 | apply below_alloc | refine below_set ?_ HB1.out.size))); intro e w9 hv; have HV := am hv; obtain ⟨rfl, _⟩ := hv))
 (try simp only [Exit.inBlock, Exit.then])
 refine ⟨rfl, .tuple #[], results_none rfl _ _ _, ?_⟩
 exact VEnds.from HV.out (by repeat (first | exact HB1.out | exact Below.refl _ _ | apply below_drewN | apply below_drew1 | apply below_alloc | refine below_set ?_ HB1.out.size)) HL.out (Sm.refl _ _)
theorem far_obj {α : Type} {dd : Kd α} {Wd n : Nat} {free : Bool} {st : St} {sl : Value} {W w1 w2 : World} {o : Obj} {A : Option Addr} {xs : List α} (h : Wr Wd free st sl W) (hs : W.heap.size ≤ w1.heap.size) (hf : Kd.F dd w2 (fun k => (okW Wd sl k ∧ k < w1.heap.size) ∨ (w1.alloc o).heap.size ≤ k) A n xs) (u v : Value) :
  Kd.F dd ((w2.setCell ⟨w1.heap.size, 0, none⟩ u).setCell ⟨w1.heap.size, 1, none⟩ v) (okW Wd sl) A n xs := by
 have hne : ∀ k, ((okW Wd sl k ∧ k < w1.heap.size) ∨ (w1.alloc o).heap.size ≤ k) → k ≠ w1.heap.size := by
  rintro k (⟨_, hk⟩ | hk)
  ·omega
  ·rw [World.size_alloc] at hk; omega
 refine Kd.F_mono (Kd.F_far (p := ⟨w1.heap.size, 1, none⟩) (Kd.F_far (p := ⟨w1.heap.size, 0, none⟩) hf hne _) hne _) ?_
 rintro k (⟨hk, _⟩ | hk)
 ·exact hk
 ·rw [World.size_alloc] at hk
  exact ⟨by have := h.lt; omega, fun hh => by have := (h.own.lt k hh.symm).2; omega⟩
theorem perm_names {P : ByteArray → Prop} {ns ns' : List ByteArray} {ys ys' : List J} (h : ∀ s, s ∈ ns → P s) (h1 : ns.length = ys.length) (h2 : ns'.length = ys'.length) (hp : (ns'.zip ys').Perm (ns.zip ys)) : ∀ s, s ∈ ns' → P s := by
 have := hp.map Prod.fst
 rw [map_fst_zip h1, map_fst_zip h2] at this
 exact fun s hs => h s (this.mem_iff.1 hs)
theorem perm_items {P : J → Prop} {ns ns' : List ByteArray} {ys ys' : List J} (h : ∀ y, y ∈ ys → P y) (h1 : ns.length = ys.length) (h2 : ns'.length = ys'.length) (hp : (ns'.zip ys').Perm (ns.zip ys)) : ∀ y, y ∈ ys' → P y := by
 have := hp.map Prod.snd
 rw [map_snd_zip h1, map_snd_zip h2] at this
 exact fun s hs => h s (this.mem_iff.1 hs)
theorem perm_sum {a b : List Nat} (h : a.Perm b) : a.sum = b.sum := by
 induction h with
 | nil => rfl
 | cons x _ ih => simp [ih]
 | swap x y l => simp only [List.sum_cons]; omega
 | trans _ _ h1 h2 => exact h1.trans h2
theorem perm_wt (r : Nat) {ns ns' : List ByteArray} {ys ys' : List J} (h1 : ns.length = ys.length) (h2 : ns'.length = ys'.length) (hp : (ns'.zip ys').Perm (ns.zip ys)) : wtN ns' + wtI r ys' + 2 = wtN ns + wtI r ys + 2 := by
 have a := hp.map Prod.fst
 have b := hp.map Prod.snd
 rw [map_fst_zip h1, map_fst_zip h2] at a
 rw [map_snd_zip h1, map_snd_zip h2] at b
 have c : wtN ns' = wtN ns := perm_sum (a.map _)
 have d : wtI r ys' = wtI r ys := perm_sum (b.map _)
 rw [c, d]
set_option maxRecDepth 1000000 in
set_option maxHeartbeats 4000000 in
theorem value_objC (Wd : Nat) (free : Bool) (st : St) (sl : Value) (d : Int) (f1 : ByteArray) (A2 A3 : Option Addr) (n2 c2 n3 c3 : Nat) (W : World) (wt : Nat) (h : Wr Wd free st sl W) (l2 : List ByteArray) (l3 : List J) (hn2 : n2 = l2.length) (hn3 : n3 = l3.length) (hny : l2.length = l3.length) (r : Nat) (he : st.e = 0) (h1 : ¬ (32 : Int) < d) (h2 : ¬ (32 : Int) ≤ d) (hok : nodeOK 6 f1 n2 n3 = true) (hG : Gl Wd W) (hwt : wtN l2 + wtI r l3 + 2 ≤ wt) (hfit : Fit free st wt) (hsn : ∀ s, s ∈ l2 → s.size ≤ 288230376151711743) (hsm : ∀ y, y ∈ l3 → SmJ r y) (hln : true = true → l3.length ≤ 1000000 ∧ ∀ y, y ∈ l3 → LnJ r y) (hF2 : Kd.F Kd.string W (okW Wd sl) A2 n2 l2) (hc2 : n2 ≤ c2) (hF3 : Kd.F k25 W (okW Wd sl) A3 n3 l3) (hc3 : n3 ≤ c3) (IH : WOK free true r (wrap64 (d + 1))) (hso : SortedOK) :
  Calls Tryz.prog 110 #[ptr Wd, jVal 6 f1 A2 A3 n2 c2 n3 c3, .int .i64 d, .bool true] W (VEnds Wd free true st sl W wt (putF free (membersW free (valW free true r) [] 0 (namesOf true l2 l3) (itemsOf true l2 l3) (putF free st [123])) [125])) := by
 have H := am h
 have HL := am (Nat.le_of_lt h.lt)
 have cw2 : ∀ o : Obj, (W.alloc o).cell? ⟨Wd, 2, none⟩ = some (.int .i64 st.e) := fun o => (World.cell?_of_block (Below.block (below_alloc (Below.refl _ _) o) _ h.lt)).trans ((blk_cell h.blk 2).trans rfl)
 clear h
 have e0 : ((st.e : Int) != 0) = false := by rw [he]; rfl
 subst hn2
 subst hn3
 have b1 : decide ((32 : Int) < d) = false := decide_eq_false h1
 have b2 : decide ((32 : Int) ≤ d) = false := decide_eq_false h2
 have HOK := am hok
 have HG := am hG
 have HF := am hfit
 have HSN := am hsn
 have HS := am hsm
 have HLN := am hln
 have HX2 := am hF2
 have HX := am hF3
 have HI := am IH
 have HNY := am hny
 clear he hok hG hfit hsn hsm hln hF2 hF3 IH hny
 have ta := is_84
 have tb := no_84_78
 have tc := no_84_80
 have td := no_84_82
 unfold SortedOK at hso
 have HSO := am hso
 clear hso
 go_enter Tryz.func110, Tryz.ntmps110
 go_wp2_with (first | (go_at_call 145; (with_reducible refine (node_yes6 f1 A2 A3 l2.length c2 l3.length c3 _ HOK.out).mono ?_); rintro e w1 ⟨rfl, hb⟩; have HB1 := am (show Below W.heap.size W w1 from below_step (by repeat (first | exact Below.refl _ _ | apply below_drewN | apply below_drew1 | apply below_alloc)) hb); clear hb) | (go_at_call 148; (with_reducible refine (HSO.out _ (fun k => okW Wd sl k ∧ k < w1.heap.size) A2 A3 c2 c3 l2 l3 HNY.out ?ln ?f2 hc2 ?f3 hc3).mono ?_); (case ln => rw [HNY.out]; exact (HLN.out (by first | rfl | trivial)).1); (case f2 => exact Kd.F_alloc (Kd.F_mono (Kd.F_bound (Kd.F_below HX2.out HB1.out)) (fun _ hk => hk)) _); (case f3 => exact Kd.F_alloc (Kd.F_mono (Kd.F_bound (Kd.F_below HX.out HB1.out)) (fun _ hk => hk)) _); rintro e w2 ⟨B2, B3, k2, k3, ns', ys', rfl, hb2, hl', hk2, hk3, hp, hnd, hf2, hf3⟩; have HB2 := am hb2; have HP := am hp; have HND := am hnd; have HF2 := am hf2; have HF3 := am hf3; have HL' := am hl'; have BK := am ((hb2.block w1.heap.size (by rw [World.size_alloc]; omega)).trans (heap_alloc_new w1 (.cells #[.slice A2 l2.length c2, .slice A3 l3.length c3] 213))); have y0 : w2.cell? ⟨w1.heap.size, 0, none⟩ = some (.slice A2 l2.length c2) := (blk_cell BK.out 0).trans rfl; have y1 : w2.cell? ⟨w1.heap.size, 1, none⟩ = some (.slice A3 l3.length c3) := (blk_cell BK.out 1).trans rfl; have z0 := blk_free BK.out 0; have z1 := blk_free BK.out 1; have HK2 := am hk2; have HK3 := am hk3; have HSN' := am (perm_names HSN.out HNY.out hl' hp); have HS' := am (perm_items HS.out HNY.out hl' hp); have HLN' := am (show true = true → ∀ y, y ∈ ys' → LnJ r y from fun _ => perm_items (HLN.out (by first | rfl | trivial)).2 HNY.out hl' hp); have HWN := am (perm_wt r HNY.out hl' hp); clear hk2 hk3 hb2 hp hnd hf2 hf3 hl') | (go_at_call 149; (with_reducible refine (members_calls Wd free true st sl d B2 B3 k2 k3 _ wt ns' ys' HL'.out r ?wm ?gm (by rw [HWN.out]; exact hwt) HF.out HSN'.out HS'.out (fun _ => HLN'.out (by first | rfl | trivial)) ?f2 HK2.out ?f3 HK3.out HI.out).mono ?_); (case wm => exact H.out.below (below_set (below_set (below_step (below_alloc HB1.out _) HB2.out) HB1.out.size) HB1.out.size)); (case gm => exact HG.out.below (below_set (below_set (below_step (below_alloc HB1.out _) HB2.out) HB1.out.size) HB1.out.size) HL.out); (case f2 => exact far_obj H.out HB1.out.size HF2.out _ _); (case f3 => exact far_obj H.out HB1.out.size HF3.out _ _); intro e w9 hv; have HV := am hv; obtain ⟨rfl, _⟩ := hv))
 (try simp only [Exit.inBlock, Exit.then])
 refine ⟨rfl, .tuple #[], results_none rfl _ _ _, ?_⟩
 exact VEnds.from HV.out (below_set (below_set (below_step (below_alloc HB1.out _) HB2.out) HB1.out.size) HB1.out.size) HL.out (order_any free (fun y st h => valW_bad free true r y st h) _ HNY.out HL'.out HP.out HND.out)
theorem nodeOK_plain {f0 : Int} {f1 : ByteArray} {n2 n3 : Nat} (h : nodeOK f0 f1 n2 n3 = true) (h5 : ¬ f0 = 5) (h6 : ¬ f0 = 6) : f0 = 0 ∨ f0 = 1 ∨ f0 = 2 ∨ f0 = 3 ∨ f0 = 4 := by
 by_cases h0 : f0 = 0
 ·exact .inl h0
 by_cases h1 : f0 = 1
 ·exact .inr (.inl h1)
 by_cases h2 : f0 = 2
 ·exact .inr (.inr (.inl h2))
 by_cases h3 : f0 = 3
 ·exact .inr (.inr (.inr (.inl h3)))
 by_cases h4 : f0 = 4
 ·exact .inr (.inr (.inr (.inr h4)))
 exfalso
 unfold nodeOK at h
 simp [h0, h1, h2, h3, h4, h5, h6] at h
theorem valW_plain (free canon : Bool) (r : Nat) (v : J) (st : St) (he : st.e = 0) (h5 : ¬ v.f0 = 5) (h6 : ¬ v.f0 = 6) :
  valW free canon r v st = if nodeOK v.f0 v.f1 v.f2.length v.f3.length = false then ⟨st.out, 47⟩ else if v.f0 = 3 then putF free st v.f1.data.toList else if v.f0 = 4 then putsF free st (quoteB v.f1) else putF free st (wordB v.f0.toNat).data.toList := by
 cases r with
 | zero => rw [valW, if_neg (by simp [he]), if_neg (by simp [h5, h6])]
 | succ r => rw [valW, if_neg (by simp [he])]; split <;> first | rfl | rw [if_neg h5, if_neg h6]
theorem plain_ok (free canon : Bool) (r : Nat) (d : Int) (hd : ¬ (32 : Int) < d) (Wd : Nat) (st : St) (sl : Value) (W : World) (v : J) (A2 A3 : Option Addr) (c2 c3 : Nat) (h : Wr Wd free st sl W) (hfit : Fit free st (wtJ r v)) (hz : v.f1.size ≤ 288230376151711743) (hG : Gl Wd W) (he : st.e = 0) (h5 : ¬ v.f0 = 5) (h6 : ¬ v.f0 = 6) :
  Calls Tryz.prog 110 #[ptr Wd, jVal v.f0 v.f1 A2 A3 v.f2.length c2 v.f3.length c3, .int .i64 d, .bool canon] W (VEnds Wd free canon st sl W (wtJ r v) (valW free canon r v st)) := by
 rw [valW_plain free canon r v st he h5 h6]
 have hw := wtJ_text r v
 cases hok : nodeOK v.f0 v.f1 v.f2.length v.f3.length with
 | false => rw [if_pos rfl]; exact value_nodeX Wd free canon st sl d v.f0 v.f1 A2 A3 _ c2 _ c3 W _ h he hd h5 h6 (by omega) hok hG
 | true =>
  rw [if_neg (by decide)]
  rcases nodeOK_plain hok h5 h6 with h0 | h0 | h0 | h0 | h0
  ·rw [h0] at hok ⊢
   exact value_word0 Wd free canon st sl d v.f1 A2 A3 _ c2 _ c3 W _ h he hd hok hG (hfit.room (m := (wordB 0).size) (by show 4 ≤ _; omega) (by decide)) (by show 4 ≤ _; omega)
  ·rw [h0] at hok ⊢
   exact value_word1 Wd free canon st sl d v.f1 A2 A3 _ c2 _ c3 W _ h he hd hok hG (hfit.room (m := (wordB 1).size) (by show 5 ≤ _; omega) (by decide)) (by show 5 ≤ _; omega)
  ·rw [h0] at hok ⊢
   exact value_word2 Wd free canon st sl d v.f1 A2 A3 _ c2 _ c3 W _ h he hd hok hG (hfit.room (m := (wordB 2).size) (by show 4 ≤ _; omega) (by decide)) (by show 4 ≤ _; omega)
  ·rw [h0] at hok ⊢
   exact value_word3 Wd free canon st sl d v.f1 A2 A3 _ c2 _ c3 W _ h he hd (by omega) hok hG (hfit.room (m := v.f1.size) (by omega) (by omega)) (by omega)
  ·rw [h0] at hok ⊢
   exact value_text Wd free canon st sl d v.f1 A2 A3 _ c2 _ c3 W _ h he hd (by omega) hok hG hz (hfit.room (m := 12 * v.f1.size + 14) (by omega) (by omega)) (by omega)
theorem valW_succ (free canon : Bool) (r : Nat) (v : J) (st : St) (he : st.e = 0) : valW free canon (r + 1) v st =
  if nodeOK v.f0 v.f1 v.f2.length v.f3.length = false then ⟨st.out, 47⟩
  else if v.f0 = 5 then putF free (itemsW free (valW free canon r) 0 v.f3 (putF free st [91])) [93]
  else if v.f0 = 6 then putF free (membersW free (valW free canon r) [] 0 (namesOf canon v.f2 v.f3) (itemsOf canon v.f2 v.f3) (putF free st [123])) [125]
  else if v.f0 = 3 then putF free st v.f1.data.toList
  else if v.f0 = 4 then putsF free st (quoteB v.f1)
  else putF free st (wordB v.f0.toNat).data.toList := by
 rw [valW, if_neg (by simp [he])]
theorem node6_len {f1 : ByteArray} {n2 n3 : Nat} (h : nodeOK 6 f1 n2 n3 = true) : n2 = n3 := by
 unfold nodeOK at h
 simp at h
 exact h.2
theorem wvalue_ok (free canon : Bool) (hso : canon = true → SortedOK) : ∀ r, r ≤ 32 → WOK free canon r (32 - (r : Int))
 | 0, _ => by
  intro Wd st sl W v A2 A3 c2 c3 h hfit hsm _ hF2 hc2 hF3 hc3 hG
  by_cases he : st.e = 0
  ·by_cases h5 : v.f0 = 5
   ·rw [valW, if_neg (by simp [he]), if_pos (.inl h5), h5]
    exact value_deep5 Wd free canon st sl _ v.f1 A2 A3 _ c2 _ c3 W _ h he (by decide) (by decide)
   ·by_cases h6 : v.f0 = 6
    ·rw [valW, if_neg (by simp [he]), if_pos (.inr h6), h6]
     exact value_deep6 Wd free canon st sl _ v.f1 A2 A3 _ c2 _ c3 W _ h he (by decide) (by decide)
    ·exact plain_ok free canon 0 _ (by decide) Wd st sl W v A2 A3 c2 c3 h hfit hsm.text hG he h5 h6
  ·rw [valW_bad _ _ _ _ _ he]
   exact value_bad Wd free canon st sl _ v.f0 v.f1 A2 A3 _ c2 _ c3 W _ h he
 | r + 1, hr => by
  have IH := wvalue_ok free canon hso r (by omega)
  have ed : wrap64 ((32 - ((r + 1 : Nat) : Int)) + 1) = 32 - (r : Int) := by unfold wrap64; omega
  rw [← ed] at IH
  intro Wd st sl W v A2 A3 c2 c3 h hfit hsm hln hF2 hc2 hF3 hc3 hG
  have hd1 : ¬ (32 : Int) < 32 - ((r + 1 : Nat) : Int) := by omega
  have hd2 : ¬ (32 : Int) ≤ 32 - ((r + 1 : Nat) : Int) := by omega
  have hw : wtJ (r + 1) v = 12 * v.f1.size + 16 + wtN v.f2 + wtI r v.f3 := by rw [wtJ, wtN, wtI]
  obtain ⟨hz, hsn, hsy⟩ := (show v.f1.size ≤ 288230376151711743 ∧ (∀ s, s ∈ v.f2 → s.size ≤ 288230376151711743) ∧ ∀ y, y ∈ v.f3 → SmJ r y from hsm)
  by_cases he : st.e = 0
  ·by_cases h5 : v.f0 = 5
   ·rw [valW_succ free canon r v st he]
    rw [h5]
    cases hok : nodeOK 5 v.f1 v.f2.length v.f3.length with
    | false => rw [if_pos rfl]; exact value_node5 Wd free canon st sl _ v.f1 A2 A3 _ c2 _ c3 W _ h he hd1 hd2 (by omega) hok hG
    | true =>
     rw [if_neg (by decide), if_pos rfl]
     exact value_list Wd free canon st sl _ v.f1 A2 A3 _ c2 _ c3 W _ h v.f3 rfl r he hd1 hd2 hok hG (by omega) hfit hsy (fun hc => (show v.f3.length ≤ 1000000 ∧ ∀ y, y ∈ v.f3 → LnJ r y from hln hc).2) hF3 hc3 IH
   ·by_cases h6 : v.f0 = 6
    ·rw [valW_succ free canon r v st he]
     rw [h6]
     cases hok : nodeOK 6 v.f1 v.f2.length v.f3.length with
     | false => rw [if_pos rfl]; exact value_node6 Wd free canon st sl _ v.f1 A2 A3 _ c2 _ c3 W _ h he hd1 hd2 (by omega) hok hG
     | true =>
      rw [if_neg (by decide), if_neg (by decide), if_pos rfl]
      cases canon with
      | false => exact value_obj Wd free st sl _ v.f1 A2 A3 _ c2 _ c3 W _ h v.f2 v.f3 rfl rfl (node6_len hok) r he hd1 hd2 hok hG (by omega) hfit hsn hsy (fun hc => by cases hc) hF2 hc2 hF3 hc3 IH
      | true => exact value_objC Wd free st sl _ v.f1 A2 A3 _ c2 _ c3 W _ h v.f2 v.f3 rfl rfl (node6_len hok) r he hd1 hd2 hok hG (by omega) hfit hsn hsy (fun hc => hln hc) hF2 hc2 hF3 hc3 IH (hso rfl)
    ·exact plain_ok free canon (r + 1) _ hd1 Wd st sl W v A2 A3 c2 c3 h hfit hz hG he h5 h6
  ·rw [valW_bad _ _ _ _ _ he]
   exact value_bad Wd free canon st sl _ v.f0 v.f1 A2 A3 _ c2 _ c3 W _ h he
theorem heap25 : Kd.Heap k25 := Kd.heap_fix (fun _ hd => Kd.heap_iso _ (Kd.heap_pair (Kd.heap_int _) (Kd.heap_pair Kd.heap_string (Kd.heap_pair (Kd.heap_slice 9 Kd.heap_string) (Kd.heap_slice 25 hd)))))
def printS (v : J) : St := valW false false 32 v ⟨[], 0⟩
def printB (v : J) : ByteArray := if (printS v).e = 0 then bs (printS v).out else ⟨#[]⟩
theorem wr_new (free : Bool) (W : World) : Wr W.heap.size free ⟨[], 0⟩ (.slice none 0 0) (W.alloc (.cells #[.slice none 0 0, .bool free, .int .i64 0] 158)) :=
 ⟨heap_alloc_new W _, Own.nil _ _ (by rw [World.size_alloc]; omega)⟩
theorem fit_new (n : Nat) : Fit false ⟨[], 0⟩ n := ⟨(fun h => by cases h), (fun _ => by decide)⟩
set_option maxRecDepth 1000000 in
set_option maxHeartbeats 4000000 in
theorem print_calls (f0 : Int) (f1 : ByteArray) (l2 : List ByteArray) (l3 : List J) (A2 A3 : Option Addr) (c2 c3 : Nat) (W : World) (hsm : SmJ 32 ⟨f0, f1, l2, l3⟩) (hC2 : Kd.string.C W A2 l2.length l2) (hc2 : l2.length ≤ c2) (hC3 : k25.C W A3 l3.length l3) (hc3 : l3.length ≤ c3) (hG : GLw W) (hT : Tabs W) :
  Calls Tryz.prog 58 #[jVal f0 f1 A2 A3 l2.length c2 l3.length c3] W fun x W' => x = .returned (.tuple #[.string (printB ⟨f0, f1, l2, l3⟩), .int .i64 (printS ⟨f0, f1, l2, l3⟩).e]) ∧ Below W.heap.size W W' := by
 have hvo := wvalue_ok false false (fun h => by cases h) 32 (Nat.le_refl _)
 rw [show (32 : Int) - ((32 : Nat) : Int) = 0 by decide] at hvo
 have hval := fun (b : Obj) => hvo (W.alloc b).heap.size ⟨[], 0⟩ (.slice none 0 0) ((W.alloc b).alloc (.cells #[.slice none 0 0, .bool false, .int .i64 0] 158)) ⟨f0, f1, l2, l3⟩ A2 A3 c2 c3 (wr_new false _) (fit_new _) hsm (fun h => by cases h)
  (Kd.F_alloc (Kd.F_alloc (Kd.F_mono (Kd.C_F Kd.heap_string hC2) (fun k hk => ⟨by rw [World.size_alloc]; omega, by simp [Value.ownBlock]⟩)) b) _) hc2
  (Kd.F_alloc (Kd.F_alloc (Kd.F_mono (Kd.C_F heap25 hC3) (fun k hk => ⟨by rw [World.size_alloc]; omega, by simp [Value.ownBlock]⟩)) b) _) hc3
  (fun W' hb => have hb' : Below W.heap.size W W' := (below_alloc (below_alloc (Below.refl _ _) b) _).trans (hb.mono (by rw [World.size_alloc]; omega)); ⟨hG.below hb', hT.bel hb'⟩)
 simp only [World.size_alloc] at hval
 have HV := am hval
 clear hvo hval hsm hC2 hC3 hG hT hc2 hc3
 have HS := am (show printS ⟨f0, f1, l2, l3⟩ = valW false false 32 ⟨f0, f1, l2, l3⟩ ⟨[], 0⟩ from rfl)
 have HPB := am (show printB ⟨f0, f1, l2, l3⟩ = if (printS ⟨f0, f1, l2, l3⟩).e = 0 then bs (printS ⟨f0, f1, l2, l3⟩).out else ⟨#[]⟩ from rfl)
 generalize printS ⟨f0, f1, l2, l3⟩ = ps at *
 generalize printB ⟨f0, f1, l2, l3⟩ = pb at *
 by_cases he : ps.e = 0
 ·have e0 : ((ps.e : Int) != 0) = false := by rw [he]; rfl
  have HP := am (show pb = bs ps.out by rw [HPB.out, if_pos he])
  have HE := am he
  clear he
  go_enter Tryz.func58, Tryz.ntmps58
  go_wp2_with (go_at_call 110; (with_reducible refine (HV.out _).mono ?_); rintro e w1 ⟨rfl, st1, sl1, hs, _, hw, ho⟩; have hs' := hs.eq; rw [← HS.out] at hs'; subst hs'; have c2' := (blk_cell hw.blk 2).trans rfl; have c0' := (blk_cell hw.blk 0).trans rfl; have hcv := own_string hw.own; have HB := am (show Below W.heap.size W w1 from (below_alloc (below_alloc (Below.refl _ _) _) _).trans (ho.low.mono (by omega))); clear hs hw ho; dsimp at c2' c0')
  go_ret2
  rw [HP.out, HE.out]
  exact ⟨rfl, by repeat (first | exact HB.out | apply below_drewN | apply below_drew1)⟩
 ·have e0 : ((ps.e : Int) != 0) = true := by
   have : ¬ (ps.e : Int) = 0 := by omega
   simp only [bne_iff_ne, ne_eq]
   exact this
  have HP := am (show pb = ⟨#[]⟩ by rw [HPB.out, if_neg he])
  clear he
  go_enter Tryz.func58, Tryz.ntmps58
  go_wp2_with (go_at_call 110; (with_reducible refine (HV.out _).mono ?_); rintro e w1 ⟨rfl, st1, sl1, hs, _, hw, ho⟩; have hs' := hs.eq; rw [← HS.out] at hs'; subst hs'; have c2' := (blk_cell hw.blk 2).trans rfl; have c0' := (blk_cell hw.blk 0).trans rfl; have hcv := own_string hw.own; have HB := am (show Below W.heap.size W w1 from (below_alloc (below_alloc (Below.refl _ _) _) _).trans (ho.low.mono (by omega))); clear hs hw ho; dsimp at c2' c0')
  go_region
  go_wp2
  go_ret2
  rw [HP.out]
  exact ⟨rfl, by repeat (first | exact HB.out | apply below_drewN | apply below_drew1)⟩
end Go.Proofs.YtpdelcbkcebkpaaGreatDoor.X
namespace Go.Proofs.YtpdelcbkcebkpaaGreatDoor.X
open Go.RowKit
structure GL (w : World) : Prop where
 words : GLw w
 tabs : Tabs w
 num : NumT w
theorem GL_below {w W : World} (h : GL w) (hb : Below w.heap.size w W) : GL W := ⟨h.words.below hb, h.tabs.bel hb, h.num.below hb⟩
end Go.Proofs.YtpdelcbkcebkpaaGreatDoor.X
namespace Go.Proofs.YtpdelcbkcebkpaaGreatDoor.X
open Go.RowKit Go.Lib Go.Proofs.YtpdelcbkcebkpaaGreatDoorW.PrintWords Go.Proofs.YtpdelcbkcebkpaaGreatDoorW.PrintLast Go.Proofs.YtpdelcbkcebkpaaGreatDoorW.PrintMore
def jtext_Parse.f (a0 : ByteArray) : Option (Int × ByteArray × List ByteArray × (List (S25)) × Int × Int) :=
 match parseJ a0.data.toList (a0.size + 1) with
 | none => none
 | some (.err e p) => some (0, ⟨#[]⟩, [], [], (e : Int), (p : Int))
 | some (.val j _) => some (j.f0, j.f1, j.f2, j.f3, 0, 0)
theorem jtext_Parse.calls (a0 : ByteArray) (r1 : Int) (r2 : ByteArray) (r3 : List ByteArray) (r4 : List (S25)) (r5 r6 : Int) (w : World) (hG : GL w) (h : jtext_Parse.f a0 = some (r1, r2, r3, r4, r5, r6)) :
  Calls Tryz.prog 15 #[.string a0] w fun e w' => ∃ v2_ v3_ : Value, e = .returned (.tuple #[.agg #[.int .i64 r1, .string r2, v2_, v3_], .int .i64 r5, .int .i64 r6]) ∧ Kd.R Kd.string 9 w' w.heap.size (fun _ => True) v2_ r3 ∧ Kd.R k25 25 w' w.heap.size (fun k_ => some k_ ≠ (v2_ : Value).ownBlock) v3_ r4 ∧ Below w.heap.size w w' := by
 unfold jtext_Parse.f at h
 cases ho : parseJ a0.data.toList (a0.size + 1) with
 | none => rw [ho] at h; cases h
 | some o =>
  rw [ho] at h
  refine (parse_calls a0 _ o w hG.tabs ho).mono ?_
  rintro e w' ⟨he, hb⟩
  cases o with
  | err e1 p =>
   simp only [Option.some.injEq, Prod.mk.injEq] at h
   obtain ⟨rfl, rfl, rfl, rfl, rfl, rfl⟩ := h
   obtain ⟨v2, v3, rfl, h2, h3⟩ := he
   exact ⟨v2, v3, rfl, h2, h3, hb⟩
  | val j q =>
   simp only [Option.some.injEq, Prod.mk.injEq] at h
   obtain ⟨rfl, rfl, rfl, rfl, rfl, rfl⟩ := h
   obtain ⟨v2, v3, rfl, h2, h3⟩ := he
   exact ⟨v2, v3, rfl, h2, h3, hb⟩
def smB : Nat → J → Bool
 | 0, v => decide (v.f1.size ≤ 288230376151711743)
 | r + 1, v => decide (v.f1.size ≤ 288230376151711743) && v.f2.all (fun s => decide (s.size ≤ 288230376151711743)) && v.f3.all (fun y => smB r y)
theorem smB_iff : ∀ (r : Nat) (v : J), smB r v = true ↔ SmJ r v
 | 0, v => by simp [smB, SmJ]
 | r + 1, v => by
  simp only [smB, SmJ, Bool.and_eq_true, decide_eq_true_eq, List.all_eq_true, and_assoc]
  refine and_congr Iff.rfl (and_congr Iff.rfl ⟨fun h y hy => (smB_iff r y).1 (h y hy), fun h y hy => (smB_iff r y).2 (h y hy)⟩)
def jtext_Print.f (a0_0 : Int) (a0_1 : ByteArray) (l0_2 : List ByteArray) (l0_3 : List (S25)) : Option (ByteArray × Int) :=
 if smB 32 ⟨a0_0, a0_1, l0_2, l0_3⟩ = true then some (printB ⟨a0_0, a0_1, l0_2, l0_3⟩, ((printS ⟨a0_0, a0_1, l0_2, l0_3⟩).e : Int)) else none
theorem jtext_Print.calls (a0_0 : Int) (a0_1 : ByteArray) (A0_2 : Option Addr) (c0_2 : Nat) (l0_2 : List ByteArray) (A0_3 : Option Addr) (c0_3 : Nat) (l0_3 : List (S25)) (r1 : ByteArray) (r2 : Int) (w : World) (hr0_2 : Kd.C Kd.string w A0_2 l0_2.length l0_2) (hc0_2 : l0_2.length ≤ c0_2) (hr0_3 : Kd.C k25 w A0_3 l0_3.length l0_3) (hc0_3 : l0_3.length ≤ c0_3) (hG : GL w) (h : jtext_Print.f a0_0 a0_1 l0_2 l0_3 = some (r1, r2)) :
  Calls Tryz.prog 58 #[.agg #[.int .i64 a0_0, .string a0_1, .slice A0_2 l0_2.length c0_2, .slice A0_3 l0_3.length c0_3]] w fun e w' => e = .returned (.tuple #[.string r1, .int .i64 r2]) ∧ Below w.heap.size w w' := by
 unfold jtext_Print.f at h
 split at h
 ·rename_i hs
  simp only [Option.some.injEq, Prod.mk.injEq] at h
  obtain ⟨rfl, rfl⟩ := h
  exact print_calls a0_0 a0_1 l0_2 l0_3 A0_2 A0_3 c0_2 c0_3 w ((smB_iff 32 _).1 hs) hr0_2 hc0_2 hr0_3 hc0_3 hG.words hG.tabs
 ·cases h
end Go.Proofs.YtpdelcbkcebkpaaGreatDoor.X
namespace Go.Proofs.YtpdelcbkcebkpaaGreatDoor.X
open Go.RowKit Go.Lib Go.Proofs.YtpdelcbkcebkpaaGreatDoorW.PrintWords
inductive Bd (B L : Nat) : J → Prop
 | mk (f0 : Int) (f1 : ByteArray) (f2 : List ByteArray) (f3 : List J) : f1.size ≤ B → (∀ s, s ∈ f2 → s.size ≤ B) → f2.length ≤ L → f3.length ≤ L → (∀ y, y ∈ f3 → Bd B L y) → Bd B L ⟨f0, f1, f2, f3⟩
theorem rd_nat (xs : List J) (i : Nat) (h : i < xs.length) : rd_T25 xs (i : Int) = xs[i] := by
 unfold rd_T25
 rw [show ((i : Int)).toNat = i from Int.toNat_natCast i, List.getD_eq_getElem?_getD, List.getElem?_eq_getElem h]
 rfl
theorem wrap_id (x : Int) (h0 : -9223372036854775808 ≤ x) (h1 : x ≤ 9223372036854775807) : wrap64 x = x := by unfold wrap64; omega
theorem ge_succ {K k : Nat} (h : K + 1 ≤ k) : ∃ k', k = k' + 1 ∧ K ≤ k' := ⟨k - 1, by omega, by omega⟩
theorem eta_J (y : J) : (⟨y.f0, y.f1, y.f2, y.f3⟩ : J) = y := by cases y; rfl
def bdB (B L : Nat) (v : J) : Bool := decide (v.f1.size ≤ B) && (v.f2.all (fun s => decide (s.size ≤ B)) && (decide (v.f2.length ≤ L) && (decide (v.f3.length ≤ L) && v.f3.attach.all (fun y => bdB B L y.1))))
termination_by SizeOf.sizeOf v
decreasing_by
 have h1 := List.sizeOf_lt_of_mem y.2
 cases v
 simp only [S25.mk.sizeOf_spec] at h1 ⊢
 omega
theorem bdB_iff (B L : Nat) (v : J) (h : bdB B L v = true) : Bd B L v := by
 cases v with
 | mk f0 f1 f2 f3 =>
  unfold bdB at h
  simp only [Bool.and_eq_true, decide_eq_true_eq, List.all_eq_true, List.mem_attach, forall_const, Subtype.forall] at h
  refine Bd.mk f0 f1 f2 f3 h.1 h.2.1 h.2.2.1 h.2.2.2.1 (fun y hy => ?_)
  exact bdB_iff B L y (h.2.2.2.2 y hy)
termination_by SizeOf.sizeOf v
decreasing_by
 have h1 := List.sizeOf_lt_of_mem hy
 subst_vars
 simp only [S25.mk.sizeOf_spec]
 omega
theorem bdB_of {B L B' L' : Nat} (hB : B ≤ B') (hL : L ≤ L') {v : J} (h : Bd B L v) : bdB B' L' v = true := by
 induction h with
 | mk f0 f1 f2 f3 h0 h1 h2 h3 _ ih =>
  unfold bdB
  simp only [Bool.and_eq_true, decide_eq_true_eq, List.all_eq_true, List.mem_attach, forall_const, Subtype.forall]
  exact ⟨by omega, fun s hs => Nat.le_trans (h1 s hs) hB, by omega, by omega, fun y hy => ih y hy⟩
end Go.Proofs.YtpdelcbkcebkpaaGreatDoor.X
namespace Go.Proofs.YtpdelcbkcebkpaaGreatDoor.X
open Go.RowKit Go.Lib Go.Proofs.YtpdelcbkcebkpaaGreatDoorW.PrintWords Go.Proofs.YtpdelcbkcebkpaaGreatDoorW.PrintLast Go.Proofs.YtpdelcbkcebkpaaGreatDoorW.PrintMore
theorem bytes_ext {a b : ByteArray} (h : a.data.toList = b.data.toList) : a = b := by
 cases a; cases b
 exact congrArg ByteArray.mk (Array.toList_inj.1 h)
def SEnd (P : Prop) (W : World) (e : Ending) (W' : World) : Prop := ∃ t : Bool, e = .returned (.bool t) ∧ (t = true ↔ P) ∧ Below W.heap.size W W'
theorem says_boxes (W : World) (o1 o2 : Obj) : Below W.heap.size W ((W.alloc o1).alloc o2) ∧ ((W.alloc o1).alloc o2).heap[W.heap.size]? = some o1 ∧ ((W.alloc o1).alloc o2).heap[W.heap.size + 1]? = some o2 := by
 have e1 : (W.alloc o1).heap.size = W.heap.size + 1 := by simp
 have h2 := heap_alloc_new (W.alloc o1) o2
 rw [e1] at h2
 exact ⟨below_alloc (below_alloc (Below.refl _ _) _) _, Below.alloc_at (heap_alloc_new W o1), h2⟩
theorem beq_bytes {a b : ByteArray} (h : ¬ a = b) : (a.toList == b.toList) = false := by
 rw [toList_data, toList_data]; exact beq_eq_false_iff_ne.mpr (fun e => h (bytes_ext e))
def CellOf (W : World) (a : Addr) (v : Value) : Prop := W.cell? a = some v
theorem CellOf.at {W w : World} {a : Addr} {v : Value} (h : CellOf W a v) (hb : Below W.heap.size W w) : w.cell? a = some v := (hb.cell (World.block_lt_of_cell? W _ h)).trans h
theorem name_at {W : World} {ok : Nat → Prop} {A : Option Addr} {xs : List ByteArray} (h : Kd.F Kd.string W ok A xs.length xs) (k : Nat) (hk : k < xs.length) : ∃ ad : Addr, A = some ad ∧ CellOf W (ad.add k) (.string (nmAt xs k)) := by
 obtain ⟨ad, e, q0⟩ := Kd.at_string (Kd.F_now h) (k : Int) (by omega) (by omega)
 exact ⟨ad, e, q0⟩
theorem send_no {P : Prop} {W : World} {f : Nat} {args : Array Value} (h : ¬ P) (hc : Calls Tryz.prog f args W (fun e W' => e = .returned (.bool false) ∧ Below W.heap.size W W')) : Calls Tryz.prog f args W (SEnd P W) := by
 refine hc.mono ?_
 rintro e W' ⟨he, hb⟩
 exact ⟨false, he, ⟨fun h2 => (by cases h2), fun h2 => absurd h2 h⟩, hb⟩
theorem send_iff {P Q : Prop} {W : World} {f : Nat} {args : Array Value} (h : Q ↔ P) (hc : Calls Tryz.prog f args W (SEnd P W)) : Calls Tryz.prog f args W (SEnd Q W) := by
 refine hc.mono ?_
 rintro e W' ⟨t, he, ht, hb⟩
 exact ⟨t, he, ht.trans h.symm, hb⟩
set_option maxRecDepth 1000000 in
set_option maxHeartbeats 8000000 in
theorem requal_no0 (f0 g0 : Int) (f1 g1 : ByteArray) (n2 n3 m2 m3 : Nat) (A2 A3 B2 B3 : Option Addr) (c2 c3 e2 e3 : Nat) (W : World) (h : ¬ f0 = g0) :
  Calls Tryz.prog 21 #[jVal f0 f1 A2 A3 n2 c2 n3 c3, jVal g0 g1 B2 B3 m2 e2 m3 e3] W (fun e W' => e = .returned (.bool false) ∧ Below W.heap.size W W') := by
 have k1 : (f0 != g0) = true := bne_iff_ne.mpr h
 obtain ⟨F0, F1, F2⟩ := says_boxes W (.cells #[.int .i64 f0, .string f1, .slice A2 n2 c2, .slice A3 n3 c3] 25) (.cells #[.int .i64 g0, .string g1, .slice B2 m2 e2, .slice B3 m3 e3] 25)
 have HS0 := am F0
 clear F0 F1 F2 h
 go_enter Tryz.func21, Tryz.ntmps21
 go_wp2
 go_ret
 exact ⟨rfl, by repeat (first | exact HS0.out | apply pw_below_drewN | apply below_drew1)⟩
set_option maxRecDepth 1000000 in
set_option maxHeartbeats 8000000 in
theorem requal_no1 (f0 : Int) (f1 g1 : ByteArray) (n2 n3 m2 m3 : Nat) (A2 A3 B2 B3 : Option Addr) (c2 c3 e2 e3 : Nat) (W : World) (h : ¬ f1 = g1) :
  Calls Tryz.prog 21 #[jVal f0 f1 A2 A3 n2 c2 n3 c3, jVal f0 g1 B2 B3 m2 e2 m3 e3] W (fun e W' => e = .returned (.bool false) ∧ Below W.heap.size W W') := by
 have k1 : (f1.toList == g1.toList) = false := beq_bytes h
 have k2 : (f1.toList != g1.toList) = true := by rw [bne, k1]; rfl
 obtain ⟨F0, F1, F2⟩ := says_boxes W (.cells #[.int .i64 f0, .string f1, .slice A2 n2 c2, .slice A3 n3 c3] 25) (.cells #[.int .i64 f0, .string g1, .slice B2 m2 e2, .slice B3 m3 e3] 25)
 have HS0 := am F0
 clear F0 F1 F2 h
 go_enter Tryz.func21, Tryz.ntmps21
 go_wp2
 go_ret
 exact ⟨rfl, by repeat (first | exact HS0.out | apply pw_below_drewN | apply below_drew1)⟩
set_option maxRecDepth 1000000 in
set_option maxHeartbeats 8000000 in
theorem requal_no2 (f0 : Int) (f1 : ByteArray) (n2 n3 m2 m3 : Nat) (A2 A3 B2 B3 : Option Addr) (c2 c3 e2 e3 : Nat) (W : World) (h : ¬ n2 = m2) :
  Calls Tryz.prog 21 #[jVal f0 f1 A2 A3 n2 c2 n3 c3, jVal f0 f1 B2 B3 m2 e2 m3 e3] W (fun e W' => e = .returned (.bool false) ∧ Below W.heap.size W W') := by
 have k3 : ((n2 : Int) != (m2 : Int)) = true := bne_iff_ne.mpr (fun e => h (Int.ofNat.inj e))
 have k4 : (n2 != m2) = true := bne_iff_ne.mpr h
 obtain ⟨F0, F1, F2⟩ := says_boxes W (.cells #[.int .i64 f0, .string f1, .slice A2 n2 c2, .slice A3 n3 c3] 25) (.cells #[.int .i64 f0, .string f1, .slice B2 m2 e2, .slice B3 m3 e3] 25)
 have HS0 := am F0
 clear F0 F1 F2 h
 go_enter Tryz.func21, Tryz.ntmps21
 go_wp2
 go_ret
 exact ⟨rfl, by repeat (first | exact HS0.out | apply pw_below_drewN | apply below_drew1)⟩
set_option maxRecDepth 1000000 in
set_option maxHeartbeats 8000000 in
theorem requal_no3 (f0 : Int) (f1 : ByteArray) (n2 n3 m2 m3 : Nat) (A2 A3 B2 B3 : Option Addr) (c2 c3 e2 e3 : Nat) (W : World) (h2 : n2 = m2) (h : ¬ n3 = m3) :
  Calls Tryz.prog 21 #[jVal f0 f1 A2 A3 n2 c2 n3 c3, jVal f0 f1 B2 B3 m2 e2 m3 e3] W (fun e W' => e = .returned (.bool false) ∧ Below W.heap.size W W') := by
 have k1 : ((n2 : Int) != (m2 : Int)) = false := bne_eq_false_iff_eq.mpr (by rw [h2])
 have k2 : (n2 != m2) = false := bne_eq_false_iff_eq.mpr h2
 have k3 : ((n3 : Int) != (m3 : Int)) = true := bne_iff_ne.mpr (fun e => h (Int.ofNat.inj e))
 have k4 : (n3 != m3) = true := bne_iff_ne.mpr h
 obtain ⟨F0, F1, F2⟩ := says_boxes W (.cells #[.int .i64 f0, .string f1, .slice A2 n2 c2, .slice A3 n3 c3] 25) (.cells #[.int .i64 f0, .string f1, .slice B2 m2 e2, .slice B3 m3 e3] 25)
 have HS0 := am F0
 clear F0 F1 F2 h h2
 go_enter Tryz.func21, Tryz.ntmps21
 go_wp2
 go_ret
 exact ⟨rfl, by repeat (first | exact HS0.out | apply pw_below_drewN | apply below_drew1)⟩
def EQC (a : J) : Prop := ∀ (b : J) (A2 A3 B2 B3 : Option Addr) (c2 c3 e2 e3 : Nat) (W : World), Kd.string.C W A2 a.f2.length a.f2 → k25.C W A3 a.f3.length a.f3 → Kd.string.C W B2 b.f2.length b.f2 → k25.C W B3 b.f3.length b.f3 →
 Calls Tryz.prog 21 #[jVal a.f0 a.f1 A2 A3 a.f2.length c2 a.f3.length c3, jVal b.f0 b.f1 B2 B3 b.f2.length e2 b.f3.length e3] W (SEnd (a = b) W)
theorem names_eq {ns ms : List ByteArray} (hl : ns.length = ms.length) (h : ∀ q : Nat, q < ns.length → (nmAt ms q).data.toList = (nmAt ns q).data.toList) : ns = ms := by
 refine List.ext_getElem hl (fun q h1 h2 => ?_)
 have := h q h1
 rw [nmAt_eq ms q h2, nmAt_eq ns q h1] at this
 exact (bytes_ext this).symm
theorem items_eq {ys zs : List J} (hl : ys.length = zs.length) (h : ∀ q : Nat, q < ys.length → rd_T25 ys q = rd_T25 zs q) : ys = zs := by
 refine List.ext_getElem hl (fun q h1 h2 => ?_)
 have := h q h1
 rwa [rd_nat ys q h1, rd_nat zs q h2] at this
set_option maxRecDepth 1000000 in
set_option maxHeartbeats 8000000 in
theorem requal_go (L : Nat) (hL : L ≤ 4611686018427387904) (f0 : Int) (f1 : ByteArray) (ns ms : List ByteArray) (ys zs : List J) (A2 A3 B2 B3 : Option Addr) (c2 c3 e2 e3 : Nat) (W : World) (hn : ns.length = ms.length) (hl : ys.length = zs.length) (hsn : ns.length ≤ L) (hsa : ys.length ≤ L)
  (IH : ∀ y, y ∈ ys → EQC y) (hC2 : Kd.string.C W A2 ns.length ns) (hC3 : k25.C W A3 ys.length ys) (hD2 : Kd.string.C W B2 ms.length ms) (hD3 : k25.C W B3 zs.length zs) :
  Calls Tryz.prog 21 #[jVal f0 f1 A2 A3 ns.length c2 ys.length c3, jVal f0 f1 B2 B3 ms.length e2 zs.length e3] W (SEnd (ns = ms ∧ ys = zs) W) := by
 obtain ⟨F0, F1, F2⟩ := says_boxes W (.cells #[.int .i64 f0, .string f1, .slice A2 ns.length c2, .slice A3 ys.length c3] 25) (.cells #[.int .i64 f0, .string f1, .slice B2 ms.length e2, .slice B3 zs.length e3] 25)
 have HNA := am (Kd.C_F Kd.heap_string hC2)
 have HNB := am (Kd.C_F Kd.heap_string hD2)
 have HFA := am (Kd.C_F heap25 hC3)
 have HFB := am (Kd.C_F heap25 hD3)
 have HIH := am (fun y hy => IH y hy)
 have HNN := am hn
 have HLL := am hl
 have HS0 := am F0
 have HS1 := am F1
 have HS2 := am F2
 have k1 : ((ns.length : Int) != (ms.length : Int)) = false := bne_eq_false_iff_eq.mpr (by rw [hn])
 have k2 : (ns.length != ms.length) = false := bne_eq_false_iff_eq.mpr hn
 have k3 : ((ys.length : Int) != (zs.length : Int)) = false := bne_eq_false_iff_eq.mpr (by rw [hl])
 have k4 : (ys.length != zs.length) = false := bne_eq_false_iff_eq.mpr hl
 clear hC2 hC3 hD2 hD3 IH hn hl F0 F1 F2
 go_enter Tryz.func21, Tryz.ntmps21
 go_wp2
 go_loopg [5] (ns.length + 1) (fun g v5 wr => ∃ i : Nat, v5 = .int .i64 (i : Int) ∧ i ≤ ns.length ∧ ns.length + 1 ≤ i + g ∧ Aside0 (wr.heap[W.heap.size]? = some (.cells #[.int .i64 f0, .string f1, .slice A2 ns.length c2, .slice A3 ys.length c3] 25 (0, 0))) ∧ Aside0 (wr.heap[W.heap.size + 1]? = some (.cells #[.int .i64 f0, .string f1, .slice B2 ms.length e2, .slice B3 zs.length e3] 25 (0, 0))) ∧ Aside0 (Below W.heap.size W wr) ∧ Aside0 (∀ q : Nat, q < i → (nmAt ms q).data.toList = (nmAt ns q).data.toList))
 case atStart => exact ⟨0, rfl, by omega, by omega, HS1, HS2, HS0, ⟨fun q hq => by omega⟩⟩
 case round =>
  obtain ⟨i, rfl, hi, hg, HXA, HXB, HB, HQ⟩ := hrel
  clear HS0 HS1 HS2
  have x2 := (blk_cell HXA.out 2).trans rfl
  have y2 := (blk_cell HXB.out 2).trans rfl
  by_cases hlt : i < ns.length
  ·cases gk with
   | zero => omega
   | succ g =>
    have p1 : (0 ≤ (i : Int)) = True := eq_true (by omega)
    have p2' : ((i : Int) < (ns.length : Int)) = True := eq_true (by omega)
    have p4 : ((i : Int) < (ms.length : Int)) = True := eq_true (by have := HNN.out; omega)
    have hwn := wrap_next i ns.length hlt (by omega)
    have HWN := am hwn
    clear hwn
    obtain ⟨na, ea, hna⟩ := name_at HNA.out i hlt
    subst ea
    obtain ⟨nb, eb, hnb⟩ := name_at HNB.out i (by have := HNN.out; omega)
    subst eb
    have ca := CellOf.at hna HB.out
    have cb := CellOf.at hnb HB.out
    clear hna hnb
    by_cases he : (nmAt ns i).data.toList = (nmAt ms i).data.toList
    case neg =>
     have h1 : ((nmAt ns i).toList == (nmAt ms i).toList) = false := by rw [toList_data, toList_data]; exact beq_eq_false_iff_ne.mpr he
     have h2 : ((nmAt ns i).toList != (nmAt ms i).toList) = true := by rw [bne, h1]; rfl
     have HNO := am (show ¬ (ns = ms ∧ ys = zs) from fun h => he (by rw [h.1]))
     clear he
     go_wp2
     go_quiet (fail)
     go_wp2
     go_ret
     exact ⟨false, rfl, ⟨fun h => (by cases h), fun h => absurd h HNO.out⟩, by repeat (first | exact HB.out | apply pw_below_drewN | apply below_drew1)⟩
    have h1 : ((nmAt ns i).toList == (nmAt ms i).toList) = true := by rw [toList_data, toList_data]; exact beq_iff_eq.mpr he
    have h2 : ((nmAt ns i).toList != (nmAt ms i).toList) = false := by rw [bne, h1]; rfl
    have HQ2 := am (show ∀ q : Nat, q < i + 1 → (nmAt ms q).data.toList = (nmAt ns q).data.toList from fun q hq => by
     by_cases h : q < i
     ·exact HQ.out q h
     ·obtain rfl : q = i := by omega
      exact he.symm)
    clear he
    go_wp2
    go_quiet (fail)
    go_wp2
    go_roundg g
    case measure => omega
    case rel => exact ⟨i + 1, (by first | exact congrArg (Value.int .i64) HWN.out | exact congrArg (Value.int .i64) (show (i : Int) + 1 = ((i + 1 : Nat) : Int) by omega)), by omega, by omega, ⟨by repeat (first | exact HXA.out | refine blk_drewN ?_ _ | refine blk_drew ?_)⟩, ⟨by repeat (first | exact HXB.out | refine blk_drewN ?_ _ | refine blk_drew ?_)⟩, ⟨by repeat (first | exact HB.out | apply pw_below_drewN | apply below_drew1)⟩, HQ2⟩
  have p2' : ((i : Int) < (ns.length : Int)) = False := eq_false (by omega)
  have HNE := am (show ns = ms from names_eq HNN.out (fun q hq => HQ.out q (by omega)))
  have HXA0 := HXA
  have HXB0 := HXB
  have HB0 := HB
  clear HQ HXA HXB HB y2
  go_wp2
  go_loopg [6] (ys.length + 1) (fun g v6 wr => ∃ i : Nat, v6 = .int .i64 (i : Int) ∧ i ≤ ys.length ∧ ys.length + 1 ≤ i + g ∧ Aside0 (wr.heap[W.heap.size]? = some (.cells #[.int .i64 f0, .string f1, .slice A2 ns.length c2, .slice A3 ys.length c3] 25 (0, 0))) ∧ Aside0 (wr.heap[W.heap.size + 1]? = some (.cells #[.int .i64 f0, .string f1, .slice B2 ms.length e2, .slice B3 zs.length e3] 25 (0, 0))) ∧ Aside0 (Below W.heap.size W wr) ∧ Aside0 (∀ q : Nat, q < i → rd_T25 ys q = rd_T25 zs q))
  case atStart => exact ⟨0, rfl, by omega, by omega, HXA0, HXB0, HB0, ⟨fun q hq => by omega⟩⟩
  case round =>
   clear hlt p2' hi hg x2 HXA0 HXB0 HB0
   rename_i i0 _ _ _ _ _
   obtain ⟨i, rfl, hi, hg, HXA, HXB, HB, HQ⟩ := hrel
   have x3 := (blk_cell HXA.out 3).trans rfl
   by_cases hlt : i < ys.length
   ·cases gk with
    | zero => omega
    | succ g =>
     have hkb : i < zs.length := by have := HLL.out; omega
     have HLT := am hlt
     have p1 : (0 ≤ (i : Int)) = True := eq_true (by omega)
     have p2' : ((i : Int) < (ys.length : Int)) = True := eq_true (by omega)
     have p3 : ((i : Int) < (zs.length : Int)) = True := eq_true (by omega)
     have hwn := wrap_next i ys.length hlt (by omega)
     have HWN := am hwn
     clear hwn
     obtain ⟨ada, P2, p2, P3, p3, e9, u0, u1, u2, u3, _, ga2, _, ga3⟩ := F_elem HFA.out i hlt
     subst e9
     obtain ⟨adb, Q2, q2, Q3, q3, e9, v0, v1, v2, v3, _, gb2, _, gb3⟩ := F_elem HFB.out i hkb
     subst e9
     have HA0 := am (show CellOf W _ _ from u0)
     have HA1 := am (show CellOf W _ _ from u1)
     have HA2 := am (show CellOf W _ _ from u2)
     have HA3 := am (show CellOf W _ _ from u3)
     have HC0 := am (show CellOf W _ _ from v0)
     have HC1 := am (show CellOf W _ _ from v1)
     have HC2 := am (show CellOf W _ _ from v2)
     have HC3 := am (show CellOf W _ _ from v3)
     have HGA2 := am ga2
     have HGA3 := am ga3
     have HGB2 := am gb2
     have HGB3 := am gb3
     clear u0 u1 u2 u3 v0 v1 v2 v3 ga2 ga3 gb2 gb3
     go_wp2
     refine start_ (n := 12) (S := fun w' => w'.cell? ⟨W.heap.size, 3, none⟩ = some (.slice (some ada) ys.length c3) ∧ w'.cell? ⟨W.heap.size + 1, 3, none⟩ = some (.slice (some adb) zs.length e3) ∧ w'.cell? (ada.add (i * 4)) = some (.int .i64 (rd_T25 ys i).f0) ∧ w'.cell? ⟨(ada.add (i * 4)).block, (ada.add (i * 4)).off + 1, none⟩ = some (.string (rd_T25 ys i).f1) ∧ w'.cell? ⟨(ada.add (i * 4)).block, (ada.add (i * 4)).off + 2, none⟩ = some (.slice P2 (rd_T25 ys i).f2.length p2) ∧ w'.cell? ⟨(ada.add (i * 4)).block, (ada.add (i * 4)).off + 3, none⟩ = some (.slice P3 (rd_T25 ys i).f3.length p3) ∧ w'.cell? (adb.add (i * 4)) = some (.int .i64 (rd_T25 zs i).f0) ∧ w'.cell? ⟨(adb.add (i * 4)).block, (adb.add (i * 4)).off + 1, none⟩ = some (.string (rd_T25 zs i).f1) ∧ w'.cell? ⟨(adb.add (i * 4)).block, (adb.add (i * 4)).off + 2, none⟩ = some (.slice Q2 (rd_T25 zs i).f2.length q2) ∧ w'.cell? ⟨(adb.add (i * 4)).block, (adb.add (i * 4)).off + 3, none⟩ = some (.slice Q3 (rd_T25 zs i).f3.length q3)) (ds := []) #[false, false, false, false, false, false, false, false, false, false, false, false] (by kernel_rfl) rfl rfl ⟨(blk_cell HXA.out 3).trans rfl, (blk_cell HXB.out 3).trans rfl, HA0.out.at (pw_below_drewN HB.out 1), HA1.out.at (pw_below_drewN HB.out 1), HA2.out.at (pw_below_drewN HB.out 1), HA3.out.at (pw_below_drewN HB.out 1), HC0.out.at (pw_below_drewN HB.out 1), HC1.out.at (pw_below_drewN HB.out 1), HC2.out.at (pw_below_drewN HB.out 1), HC3.out.at (pw_below_drewN HB.out 1)⟩ (fun hHeld => ?_)
     have HB2 := am (show Below W.heap.size W wr.drew from pw_below_drewN HB.out 1)
     have HXA2 := am (show wr.drew.heap[W.heap.size]? = some _ from HXA.out)
     have HXB2 := am (show wr.drew.heap[W.heap.size + 1]? = some _ from HXB.out)
     generalize wr.drew = w8 at HB2 HXA2 HXB2 hHeld ⊢
     refine pure_ (i := 0) (N := some 62) (v := ?_) (a' := ?_) #[true, false, false, false, false, false, false, false, false, false, false, false] rfl rfl (by kernel_rfl) (fun _ _ _ h => h) (Or.inl ⟨by rfl, ?_⟩) ?_ ?_
     rotate_left
     ·intro w'
      go_simp
      with_reducible rfl
     rotate_left
     ·simp only [Act.put, sAx, sZx, sSx, i64_w, i32_w]
      rfl
     refine pure_ (i := 2) (N := some 64) (v := ?_) (a' := ?_) #[true, false, true, false, false, false, false, false, false, false, false, false] rfl rfl (by kernel_rfl) (fun _ _ _ h => h) (Or.inl ⟨by rfl, ?_⟩) ?_ ?_
     rotate_left
     ·intro w'
      go_simp
      with_reducible rfl
     rotate_left
     ·simp only [Act.put, sAx, sZx, sSx, i64_w, i32_w]
      rfl
     refine pure_ (i := 5) (N := some 67) (v := ?_) (a' := ?_) #[true, false, true, false, false, true, false, false, false, false, false, false] rfl rfl (by kernel_rfl) (fun _ _ _ h => h) (Or.inl ⟨by rfl, ?_⟩) ?_ ?_
     rotate_left
     ·intro w'
      go_simp
      with_reducible rfl
     rotate_left
     ·simp only [Act.put, sAx, sZx, sSx, i64_w, i32_w]
      rfl
     refine pure_ (i := 7) (N := some 69) (v := ?_) (a' := ?_) #[true, false, true, false, false, true, false, true, false, false, false, false] rfl rfl (by kernel_rfl) (fun _ _ _ h => h) (Or.inl ⟨by rfl, ?_⟩) ?_ ?_
     rotate_left
     ·intro w'
      go_simp
      with_reducible rfl
     rotate_left
     ·simp only [Act.put, sAx, sZx, sSx, i64_w, i32_w]
      rfl
     refine take_ (i := 1) (N := some 63) (v := ?_) (a' := ?_) #[true, true, true, false, false, true, false, true, false, false, false, false] rfl rfl (by kernel_rfl) (fun _ _ _ h => h) (Or.inl ⟨by rfl, ?_⟩) hHeld ?_ ?_
     rotate_left
     ·rintro w' ⟨s0, s1, s2, s3, s4, s5, s6, s7, s8, s9⟩
      go_simp
      with_reducible rfl
     rotate_left
     ·simp only [Act.put, sAx, sZx, sSx, i64_w, i32_w]
      rfl
     refine take_ (i := 6) (N := some 68) (v := ?_) (a' := ?_) #[true, true, true, false, false, true, true, true, false, false, false, false] rfl rfl (by kernel_rfl) (fun _ _ _ h => h) (Or.inl ⟨by rfl, ?_⟩) hHeld ?_ ?_
     rotate_left
     ·rintro w' ⟨s0, s1, s2, s3, s4, s5, s6, s7, s8, s9⟩
      go_simp
      with_reducible rfl
     rotate_left
     ·simp only [Act.put, sAx, sZx, sSx, i64_w, i32_w]
      rfl
     refine pure_ (i := 3) (N := some 65) (v := ?_) (a' := ?_) #[true, true, true, true, false, true, true, true, false, false, false, false] rfl rfl (by kernel_rfl) (fun _ _ _ h => h) (Or.inl ⟨by rfl, ?_⟩) ?_ ?_
     rotate_left
     ·intro w'
      go_simp
      with_reducible rfl
     rotate_left
     ·simp only [Act.put, sAx, sZx, sSx, i64_w, i32_w]
      rfl
     refine pure_ (i := 8) (N := some 70) (v := ?_) (a' := ?_) #[true, true, true, true, false, true, true, true, true, false, false, false] rfl rfl (by kernel_rfl) (fun _ _ _ h => h) (Or.inl ⟨by rfl, ?_⟩) ?_ ?_
     rotate_left
     ·intro w'
      go_simp
      with_reducible rfl
     rotate_left
     ·simp only [Act.put, sAx, sZx, sSx, i64_w, i32_w]
      rfl
     refine take_ (i := 4) (N := some 66) (v := ?_) (a' := ?_) #[true, true, true, true, true, true, true, true, true, false, false, false] rfl rfl (by kernel_rfl) (fun _ _ _ h => h) (Or.inl ⟨by rfl, ?_⟩) hHeld ?_ ?_
     rotate_left
     ·rintro w' ⟨s0, s1, s2, s3, s4, s5, s6, s7, s8, s9⟩
      go_simp
      with_reducible rfl
     rotate_left
     ·simp only [Act.put, sAx, sZx, sSx, i64_w, i32_w]
      rfl
     refine take_ (i := 9) (N := some 71) (v := ?_) (a' := ?_) #[true, true, true, true, true, true, true, true, true, true, false, false] rfl rfl (by kernel_rfl) (fun _ _ _ h => h) (Or.inl ⟨by rfl, ?_⟩) hHeld ?_ ?_
     rotate_left
     ·rintro w' ⟨s0, s1, s2, s3, s4, s5, s6, s7, s8, s9⟩
      go_simp
      with_reducible rfl
     rotate_left
     ·simp only [Act.put, sAx, sZx, sSx, i64_w, i32_w]
      rfl
     refine one_ (i := 10) (N := some 72) #[true, true, true, true, true, true, true, true, true, true, true, false] rfl rfl (by kernel_rfl) (by decide) (fun K hK => ?_)
     refine goes_ Tryz.func21 (by kernel_rfl) rfl #[jVal (rd_T25 ys i).f0 (rd_T25 ys i).f1 P2 P3 (rd_T25 ys i).f2.length p2 (rd_T25 ys i).f3.length p3, jVal (rd_T25 zs i).f0 (rd_T25 zs i).f1 Q2 Q3 (rd_T25 zs i).f2.length q2 (rd_T25 zs i).f3.length q3] (by rfl) rfl rfl (by (try simp only [List.map_toArray, List.map_cons, List.map_nil]); first | done | rfl) ?_
     refine (HIH.out (rd_T25 ys i) (rd_mem ys i HLT.out) (rd_T25 zs i) P2 P3 Q2 Q3 p2 p3 q2 q3 w8 (Kd.F_now (Kd.F_old HGA2.out HB2.out)) (Kd.F_now (Kd.F_old HGA3.out HB2.out)) (Kd.F_now (Kd.F_old HGB2.out HB2.out)) (Kd.F_now (Kd.F_old HGB3.out HB2.out))).mono ?_
     rintro e w9 ⟨t, rfl, ht, hb⟩
     refine ⟨_, rfl, ?_⟩
     have HTT := am ht
     have HB9 := am (below_step HB2.out hb)
     have HXA9 := am ((hb.block _ (lt_of_block HXA2.out)).trans HXA2.out)
     have HXB9 := am ((hb.block _ (lt_of_block HXB2.out)).trans HXB2.out)
     clear ht hb
     refine hK.out _ _ ⟨(blk_cell HXA9.out 3).trans rfl, (blk_cell HXB9.out 3).trans rfl, HA0.out.at HB9.out, HA1.out.at HB9.out, HA2.out.at HB9.out, HA3.out.at HB9.out, HC0.out.at HB9.out, HC1.out.at HB9.out, HC2.out.at HB9.out, HC3.out.at HB9.out⟩ (fun hHeld => ?_)
     clear hK K
     refine norm_ (a' := ?_) ?_ ?_
     rotate_left
     ·show Act.put _ (some 72) _ = _
      simp only [Act.put, sAx, sZx, sSx, i64_w, i32_w]
      rfl
     refine pure_ (i := 11) (N := some 73) (v := ?_) (a' := ?_) #[true, true, true, true, true, true, true, true, true, true, true, true] rfl rfl (by kernel_rfl) (fun _ _ _ h => h) (Or.inl ⟨by rfl, ?_⟩) ?_ ?_
     rotate_left
     ·intro w'
      go_simp
      with_reducible rfl
     rotate_left
     ·simp only [Act.put, sAx, sZx, sSx, i64_w, i32_w]
      rfl
     refine done_ (by kernel_rfl) ?_
     try go_wp2
     ·rename_i hb0
      have htf : t = false := by cases t; rfl; cases hb0
      have HNO := am (show ¬ (ns = ms ∧ ys = zs) from fun h => by
       have := HTT.out.2 (by rw [h.2])
       rw [htf] at this
       cases this)
      go_ret
      exact ⟨false, rfl, ⟨fun h => (by cases h), fun h => absurd h HNO.out⟩, by repeat (first | exact HB9.out | apply pw_below_drewN | apply below_drew1)⟩
     ·rename_i hb0
      have htt : t = true := by cases t; cases hb0; rfl
      have HQ2 := am (show ∀ q : Nat, q < i + 1 → rd_T25 ys q = rd_T25 zs q from fun q hq => by
       by_cases h : q < i
       ·exact HQ.out q h
       ·obtain rfl : q = i := by omega
        exact HTT.out.1 htt)
      go_roundg g
      case measure => omega
      case rel => exact ⟨i + 1, (by first | exact congrArg (Value.int .i64) HWN.out | exact congrArg (Value.int .i64) (show (i : Int) + 1 = ((i + 1 : Nat) : Int) by omega)), by omega, by omega, ⟨by repeat (first | exact HXA9.out | refine blk_drewN ?_ _ | refine blk_drew ?_)⟩, ⟨by repeat (first | exact HXB9.out | refine blk_drewN ?_ _ | refine blk_drew ?_)⟩, ⟨by repeat (first | exact HB9.out | apply pw_below_drewN | apply below_drew1)⟩, HQ2⟩
   ·have p2' : ((i : Int) < (ys.length : Int)) = False := eq_false (by omega)
    go_wp2
    go_ret
    exact ⟨true, rfl, ⟨fun _ => ⟨HNE.out, items_eq HLL.out (fun q hq => HQ.out q (by omega))⟩, fun _ => rfl⟩, by repeat (first | exact HB.out | apply pw_below_drewN | apply below_drew1)⟩
theorem requal_ok (B L : Nat) (hL : L ≤ 4611686018427387904) {a : J} (ha : Bd B L a) : EQC a := by
 induction ha with
 | mk f0 f1 f2 f3 h1 h2 h3 h4 h5 ih =>
  intro b A2 A3 B2 B3 c2 c3 e2 e3 W hA2 hA3 hB2 hB3
  obtain ⟨g0, g1, g2, g3⟩ := b
  by_cases k0 : f0 = g0
  case neg => exact send_no (fun h => k0 (congrArg (fun j : J => j.f0) h)) (requal_no0 _ _ _ _ _ _ _ _ _ _ _ _ _ _ _ _ W k0)
  by_cases k1 : f1 = g1
  case neg =>
   subst k0
   exact send_no (fun h => k1 (congrArg (fun j : J => j.f1) h)) (requal_no1 _ _ _ _ _ _ _ _ _ _ _ _ _ _ _ W k1)
  subst k0 k1
  by_cases k2 : f2.length = g2.length
  case neg => exact send_no (fun h => k2 (congrArg (fun j : J => j.f2.length) h)) (requal_no2 _ _ _ _ _ _ _ _ _ _ _ _ _ _ W k2)
  by_cases k3 : f3.length = g3.length
  case neg => exact send_no (fun h => k3 (congrArg (fun j : J => j.f3.length) h)) (requal_no3 _ _ _ _ _ _ _ _ _ _ _ _ _ _ W k2 k3)
  refine send_iff ?_ (requal_go L hL f0 f1 f2 g2 f3 g3 A2 A3 B2 B3 c2 c3 e2 e3 W k2 k3 h3 h4 ih hA2 hA3 hB2 hB3)
  constructor
  ·intro h
   exact ⟨congrArg (fun j : J => j.f2) h, congrArg (fun j : J => j.f3) h⟩
  ·rintro ⟨rfl, rfl⟩
   rfl
def eqJ (a b : J) : Bool := decide (a.f0 = b.f0) && (decide (a.f1 = b.f1) && (decide (a.f2 = b.f2) && (decide (a.f3.length = b.f3.length) && (a.f3.attach.zip b.f3).all (fun p => eqJ p.1.1 p.2))))
termination_by SizeOf.sizeOf a
decreasing_by
 have h1 := List.sizeOf_lt_of_mem p.1.2
 cases a
 simp only [S25.mk.sizeOf_spec] at h1 ⊢
 omega
theorem eqJ_iff {B L : Nat} {a : J} (ha : Bd B L a) : ∀ (b : J), eqJ a b = true → a = b := by
 induction ha with
 | mk f0 f1 f2 f3 _ _ _ _ _ ih =>
  intro b h
  obtain ⟨b0, b1, b2, b3⟩ := b
  unfold eqJ at h
  simp only [Bool.and_eq_true, decide_eq_true_eq, List.all_eq_true] at h
  obtain ⟨rfl, rfl, rfl, hl, h3⟩ := h
  have : f3 = b3 := by
   refine List.ext_getElem hl (fun i h1 h2 => ?_)
   have hi : i < (f3.attach.zip b3).length := by rw [List.length_zip, List.length_attach]; omega
   have hm := h3 ((f3.attach.zip b3)[i]'hi) (List.getElem_mem hi)
   rw [List.getElem_zip, List.getElem_attach] at hm
   exact ih _ (List.getElem_mem h1) _ hm
  rw [this]
theorem eqJ_self {B L : Nat} {v : J} (h : Bd B L v) : eqJ v v = true := by
 induction h with
 | mk f0 f1 f2 f3 _ _ _ _ _ ih =>
  unfold eqJ
  simp only [Bool.and_eq_true, decide_eq_true_eq, List.all_eq_true, true_and]
  intro p hp
  obtain ⟨i, hi, rfl⟩ := List.getElem_of_mem hp
  rw [List.getElem_zip, List.getElem_attach]
  exact ih _ (List.getElem_mem _)
def eqT (v : J) : Bool := bdB 288230376151711743 10000 v
def wicketref04_Equal.f (a0_0 : Int) (a0_1 : ByteArray) (l0_2 : List ByteArray) (l0_3 : List (S25)) (a1_0 : Int) (a1_1 : ByteArray) (l1_2 : List ByteArray) (l1_3 : List (S25)) : Option Bool :=
 if eqT ⟨a0_0, a0_1, l0_2, l0_3⟩ && eqJ ⟨a0_0, a0_1, l0_2, l0_3⟩ ⟨a1_0, a1_1, l1_2, l1_3⟩ = true then some true else none
theorem wicketref04_Equal.calls (a0_0 : Int) (a0_1 : ByteArray) (A0_2 : Option Addr) (c0_2 : Nat) (l0_2 : List ByteArray) (A0_3 : Option Addr) (c0_3 : Nat) (l0_3 : List (S25)) (a1_0 : Int) (a1_1 : ByteArray) (A1_2 : Option Addr) (c1_2 : Nat) (l1_2 : List ByteArray) (A1_3 : Option Addr) (c1_3 : Nat) (l1_3 : List (S25)) (r1 : Bool) (w : World) (hr0_2 : Kd.C Kd.string w A0_2 l0_2.length l0_2) (hc0_2 : l0_2.length ≤ c0_2) (hr0_3 : Kd.C k25 w A0_3 l0_3.length l0_3) (hc0_3 : l0_3.length ≤ c0_3) (hr1_2 : Kd.C Kd.string w A1_2 l1_2.length l1_2) (hc1_2 : l1_2.length ≤ c1_2) (hr1_3 : Kd.C k25 w A1_3 l1_3.length l1_3) (hc1_3 : l1_3.length ≤ c1_3) (hG : GL w) (h : wicketref04_Equal.f a0_0 a0_1 l0_2 l0_3 a1_0 a1_1 l1_2 l1_3 = some r1) :
  Calls Tryz.prog 21 #[.agg #[.int .i64 a0_0, .string a0_1, .slice A0_2 l0_2.length c0_2, .slice A0_3 l0_3.length c0_3], .agg #[.int .i64 a1_0, .string a1_1, .slice A1_2 l1_2.length c1_2, .slice A1_3 l1_3.length c1_3]] w fun e w' => e = .returned (.bool r1) ∧ Below w.heap.size w w' := by
 unfold wicketref04_Equal.f at h
 split at h
 ·rename_i hs
  simp only [Option.some.injEq] at h
  subst h
  simp only [eqT, Bool.and_eq_true, decide_eq_true_eq] at hs
  obtain ⟨h1, h2⟩ := hs
  have hb := bdB_iff _ _ _ h1
  refine (requal_ok 288230376151711743 10000 (by decide) hb ⟨a1_0, a1_1, l1_2, l1_3⟩ A0_2 A0_3 A1_2 A1_3 c0_2 c0_3 c1_2 c1_3 w hr0_2 hr0_3 hr1_2 hr1_3).mono ?_
  rintro e w' ⟨t, rfl, ht, hbel⟩
  refine ⟨?_, hbel⟩
  rw [ht.2 (eqJ_iff hb _ (by first | exact h2 | exact of_decide_eq_true h2))]
 ·cases h
def uintO (a0_0 : Int) (a0_1 : ByteArray) : Option (Int × Bool) := if a0_1.size ≤ 281474976710656 then some (((uintP a0_0 a0_1.data.toList).getD 0 : Nat), (uintP a0_0 a0_1.data.toList).isSome) else none
def intO (a0_0 : Int) (a0_1 : ByteArray) : Option (Int × Bool) := if a0_1.size ≤ 281474976710656 then some ((intP a0_0 a0_1.data.toList).getD 0, (intP a0_0 a0_1.data.toList).isSome) else none
def jtext_Uint.f (a0_0 : Int) (a0_1 : ByteArray) (_l0_2 : List ByteArray) (_l0_3 : List (S25)) : Option (Int × Bool) := uintO a0_0 a0_1
def wicketref04_Uint.f (a0_0 : Int) (a0_1 : ByteArray) (_l0_2 : List ByteArray) (_l0_3 : List (S25)) : Option (Int × Bool) := uintO a0_0 a0_1
def jtext_Int.f (a0_0 : Int) (a0_1 : ByteArray) (_l0_2 : List ByteArray) (_l0_3 : List (S25)) : Option (Int × Bool) := intO a0_0 a0_1
def wicketref04_Int.f (a0_0 : Int) (a0_1 : ByteArray) (_l0_2 : List ByteArray) (_l0_3 : List (S25)) : Option (Int × Bool) := intO a0_0 a0_1
theorem jtext_Uint.calls (a0_0 : Int) (a0_1 : ByteArray) (A0_2 : Option Addr) (c0_2 : Nat) (l0_2 : List ByteArray) (A0_3 : Option Addr) (c0_3 : Nat) (l0_3 : List (S25)) (r1 : Int) (r2 : Bool) (w : World) (_hr0_2 : Kd.C Kd.string w A0_2 l0_2.length l0_2) (_hc0_2 : l0_2.length ≤ c0_2) (_hr0_3 : Kd.C k25 w A0_3 l0_3.length l0_3) (_hc0_3 : l0_3.length ≤ c0_3) (hG : GL w) (h : jtext_Uint.f a0_0 a0_1 l0_2 l0_3 = some (r1, r2)) :
  Calls Tryz.prog 33 #[.agg #[.int .i64 a0_0, .string a0_1, .slice A0_2 l0_2.length c0_2, .slice A0_3 l0_3.length c0_3]] w fun e w' => e = .returned (.tuple #[.int .u64 r1, .bool r2]) ∧ Below w.heap.size w w' := by
 have h : uintO a0_0 a0_1 = some (r1, r2) := h
 unfold uintO at h
 split at h
 ·rename_i hs
  injection h with h
  injection h with h1 h2
  subst h1 h2
  exact juint_calls a0_0 a0_1 _ _ w hG.num hs
 ·cases h
theorem wicketref04_Uint.calls (a0_0 : Int) (a0_1 : ByteArray) (A0_2 : Option Addr) (c0_2 : Nat) (l0_2 : List ByteArray) (A0_3 : Option Addr) (c0_3 : Nat) (l0_3 : List (S25)) (r1 : Int) (r2 : Bool) (w : World) (_hr0_2 : Kd.C Kd.string w A0_2 l0_2.length l0_2) (_hc0_2 : l0_2.length ≤ c0_2) (_hr0_3 : Kd.C k25 w A0_3 l0_3.length l0_3) (_hc0_3 : l0_3.length ≤ c0_3) (h : wicketref04_Uint.f a0_0 a0_1 l0_2 l0_3 = some (r1, r2)) :
  Calls Tryz.prog 34 #[.agg #[.int .i64 a0_0, .string a0_1, .slice A0_2 l0_2.length c0_2, .slice A0_3 l0_3.length c0_3]] w fun e w' => e = .returned (.tuple #[.int .u64 r1, .bool r2]) ∧ Below w.heap.size w w' := by
 have h : uintO a0_0 a0_1 = some (r1, r2) := h
 unfold uintO at h
 split at h
 ·rename_i hs
  injection h with h
  injection h with h1 h2
  subst h1 h2
  exact ruint_calls a0_0 a0_1 _ _ w (by omega)
 ·cases h
theorem jtext_Int.calls (a0_0 : Int) (a0_1 : ByteArray) (A0_2 : Option Addr) (c0_2 : Nat) (l0_2 : List ByteArray) (A0_3 : Option Addr) (c0_3 : Nat) (l0_3 : List (S25)) (r1 : Int) (r2 : Bool) (w : World) (_hr0_2 : Kd.C Kd.string w A0_2 l0_2.length l0_2) (_hc0_2 : l0_2.length ≤ c0_2) (_hr0_3 : Kd.C k25 w A0_3 l0_3.length l0_3) (_hc0_3 : l0_3.length ≤ c0_3) (hG : GL w) (h : jtext_Int.f a0_0 a0_1 l0_2 l0_3 = some (r1, r2)) :
  Calls Tryz.prog 31 #[.agg #[.int .i64 a0_0, .string a0_1, .slice A0_2 l0_2.length c0_2, .slice A0_3 l0_3.length c0_3]] w fun e w' => e = .returned (.tuple #[.int .i64 r1, .bool r2]) ∧ Below w.heap.size w w' := by
 have h : intO a0_0 a0_1 = some (r1, r2) := h
 unfold intO at h
 split at h
 ·rename_i hs
  injection h with h
  injection h with h1 h2
  subst h1 h2
  exact jint_calls a0_0 a0_1 _ _ w hG.num hs
 ·cases h
theorem wicketref04_Int.calls (a0_0 : Int) (a0_1 : ByteArray) (A0_2 : Option Addr) (c0_2 : Nat) (l0_2 : List ByteArray) (A0_3 : Option Addr) (c0_3 : Nat) (l0_3 : List (S25)) (r1 : Int) (r2 : Bool) (w : World) (_hr0_2 : Kd.C Kd.string w A0_2 l0_2.length l0_2) (_hc0_2 : l0_2.length ≤ c0_2) (_hr0_3 : Kd.C k25 w A0_3 l0_3.length l0_3) (_hc0_3 : l0_3.length ≤ c0_3) (h : wicketref04_Int.f a0_0 a0_1 l0_2 l0_3 = some (r1, r2)) :
  Calls Tryz.prog 32 #[.agg #[.int .i64 a0_0, .string a0_1, .slice A0_2 l0_2.length c0_2, .slice A0_3 l0_3.length c0_3]] w fun e w' => e = .returned (.tuple #[.int .i64 r1, .bool r2]) ∧ Below w.heap.size w w' := by
 have h : intO a0_0 a0_1 = some (r1, r2) := h
 unfold intO at h
 split at h
 ·rename_i hs
  injection h with h
  injection h with h1 h2
  subst h1 h2
  exact rint_calls a0_0 a0_1 _ _ w (by omega)
 ·cases h
end Go.Proofs.YtpdelcbkcebkpaaGreatDoor.X
namespace Go.Proofs.YtpdelcbkcebkpaaGreatDoor.X
open Go.RowKit Go.Proofs.YtpdelcbkcebkpaaGreatDoor.X Go.Proofs.YtpdelcbkcebkpaaGreatDoorW.PrintWords Go.Proofs.YtpdelcbkcebkpaaGreatDoorW.PrintLast Go.Proofs.YtpdelcbkcebkpaaGreatDoorW.PrintMore
attribute [local go_sem] max2_int min2_int max_two min_two max_three min_three max_four min_four   -- for this text's walks alone
set_option linter.unusedVariables false
set_option linter.unusedSimpArgs false
def wicketlaw04_num.f (a0 : Int) : Option (Int) := some a0
set_option maxHeartbeats 8000000 in
set_option maxRecDepth 100000 in
theorem wicketlaw04_num.calls (a0 : Int) (r : Int) (w : World) (h : wicketlaw04_num.f a0 = some r) :
  Calls Tryz.prog 17 #[.int .i64 a0] w fun e w' => e = .returned (.int .i64 r) ∧ Drawn0 w w' := by
 have H : (some a0) = some r := h
 clear h
 obtain rfl := Option.some.inj H
 go_enter Tryz.func17, Tryz.ntmps17
 go_wp2
 go_ret
 exact ⟨by first | rfl | (simp; done) | (simp [*]; done), by repeat (first | exact Drawn0.refl _ | apply Drawn0.step)⟩
def wicketlaw04_live.f  : Option (Bool) := (jtext_Parse.f (⟨#[32, 123, 34, 97, 34, 32, 58, 32, 91, 49, 44, 32, 116, 114, 117, 101, 44, 32, 34, 120, 34, 93, 125, 32]⟩ : ByteArray)).bind fun bt101 => ((jtext_Print.f bt101.1 bt101.2.1 bt101.2.2.1 bt101.2.2.2.1).bind fun bt112 => ((jtext_Parse.f (⟨#[91, 49, 44, 93]⟩ : ByteArray)).bind fun bt114 => ((wicketlaw04_num.f bt101.2.2.2.2.1).bind fun t125 => (if t125 = 0 then ((wicketlaw04_num.f bt112.2).bind fun t126 => (if t126 = 0 then (if bt112.1.toList = ([123, 34, 97, 34, 58, 91, 49, 44, 116, 114, 117, 101, 44, 34, 120, 34, 93, 125] : List UInt8) then ((wicketlaw04_num.f bt114.2.2.2.2.1).bind fun t127 => (if t127 = 40 then (some (bt114.2.2.2.2.2 == 3)) else none)) else none) else none)) else none))))
set_option maxHeartbeats 8000000 in
set_option maxRecDepth 100000 in
theorem wicketlaw04_live.calls  (r : Bool) (w : World) (hG : GL w) (h : wicketlaw04_live.f  = some r) :
  Calls Tryz.prog 16 #[] w fun e w' => e = .returned (.bool r) ∧ Below w.heap.size w w' := by
 have hu25 := Tryz.underlying25
 have HB := am (Below.refl w.heap.size w)
 have HG := am hG
 clear hG
 have H : ((jtext_Parse.f (⟨#[32, 123, 34, 97, 34, 32, 58, 32, 91, 49, 44, 32, 116, 114, 117, 101, 44, 32, 34, 120, 34, 93, 125, 32]⟩ : ByteArray)).bind fun bt101 => ((jtext_Print.f bt101.1 bt101.2.1 bt101.2.2.1 bt101.2.2.2.1).bind fun bt112 => ((jtext_Parse.f (⟨#[91, 49, 44, 93]⟩ : ByteArray)).bind fun bt114 => ((wicketlaw04_num.f bt101.2.2.2.2.1).bind fun t125 => (if t125 = 0 then ((wicketlaw04_num.f bt112.2).bind fun t126 => (if t126 = 0 then (if bt112.1.toList = ([123, 34, 97, 34, 58, 91, 49, 44, 116, 114, 117, 101, 44, 34, 120, 34, 93, 125] : List UInt8) then ((wicketlaw04_num.f bt114.2.2.2.2.1).bind fun t127 => (if t127 = 40 then (some (bt114.2.2.2.2.2 == 3)) else none)) else none) else none)) else none))))) = some r := h
 clear h
 replace H := Option.bind_eq_some_iff.mp H
 obtain ⟨⟨t101, t102, t103, t106, t109, t110⟩, A10, H⟩ := H
 replace H : ((jtext_Print.f t101 t102 t103 t106).bind fun bt112 => ((jtext_Parse.f (⟨#[91, 49, 44, 93]⟩ : ByteArray)).bind fun bt114 => ((wicketlaw04_num.f t109).bind fun t125 => (if t125 = 0 then ((wicketlaw04_num.f bt112.2).bind fun t126 => (if t126 = 0 then (if bt112.1.toList = ([123, 34, 97, 34, 58, 91, 49, 44, 116, 114, 117, 101, 44, 34, 120, 34, 93, 125] : List UInt8) then ((wicketlaw04_num.f bt114.2.2.2.2.1).bind fun t127 => (if t127 = 40 then (some (bt114.2.2.2.2.2 == 3)) else none)) else none) else none)) else none)))) = some r := H
 have A1 := am A10
 clear A10
 replace H := Option.bind_eq_some_iff.mp H
 obtain ⟨⟨t112, t113⟩, A20, H⟩ := H
 replace H : ((jtext_Parse.f (⟨#[91, 49, 44, 93]⟩ : ByteArray)).bind fun bt114 => ((wicketlaw04_num.f t109).bind fun t125 => (if t125 = 0 then ((wicketlaw04_num.f t113).bind fun t126 => (if t126 = 0 then (if t112.toList = ([123, 34, 97, 34, 58, 91, 49, 44, 116, 114, 117, 101, 44, 34, 120, 34, 93, 125] : List UInt8) then ((wicketlaw04_num.f bt114.2.2.2.2.1).bind fun t127 => (if t127 = 40 then (some (bt114.2.2.2.2.2 == 3)) else none)) else none) else none)) else none))) = some r := H
 have A2 := am A20
 clear A20
 replace H := Option.bind_eq_some_iff.mp H
 obtain ⟨⟨t114, t115, t116, t119, t122, t123⟩, A30, H⟩ := H
 replace H : ((wicketlaw04_num.f t109).bind fun t125 => (if t125 = 0 then ((wicketlaw04_num.f t113).bind fun t126 => (if t126 = 0 then (if t112.toList = ([123, 34, 97, 34, 58, 91, 49, 44, 116, 114, 117, 101, 44, 34, 120, 34, 93, 125] : List UInt8) then ((wicketlaw04_num.f t122).bind fun t127 => (if t127 = 40 then (some (t123 == 3)) else none)) else none) else none)) else none)) = some r := H
 have A3 := am A30
 clear A30
 replace H := Option.bind_eq_some_iff.mp H
 obtain ⟨t125, A40, H⟩ := H
 obtain rfl : t109 = t125 := Option.some.inj A40
 replace H : (if t109 = 0 then ((wicketlaw04_num.f t113).bind fun t126 => (if t126 = 0 then (if t112.toList = ([123, 34, 97, 34, 58, 91, 49, 44, 116, 114, 117, 101, 44, 34, 120, 34, 93, 125] : List UInt8) then ((wicketlaw04_num.f t122).bind fun t127 => (if t127 = 40 then (some (t123 == 3)) else none)) else none) else none)) else none) = some r := H
 have A4 := am A40
 clear A40
 by_cases c5 : t109 = 0
 ·rw [if_pos c5] at H
  have c5b0 : (t109 == 0) = true := beq_iff_eq.mpr c5
  have c5b1 : (t109 != 0) = false := bne_eq_false_iff_eq.mpr c5
  clear c5
  replace H := Option.bind_eq_some_iff.mp H
  obtain ⟨t126, A60, H⟩ := H
  obtain rfl : t113 = t126 := Option.some.inj A60
  replace H : (if t113 = 0 then (if t112.toList = ([123, 34, 97, 34, 58, 91, 49, 44, 116, 114, 117, 101, 44, 34, 120, 34, 93, 125] : List UInt8) then ((wicketlaw04_num.f t122).bind fun t127 => (if t127 = 40 then (some (t123 == 3)) else none)) else none) else none) = some r := H
  have A6 := am A60
  clear A60
  by_cases c7 : t113 = 0
  ·rw [if_pos c7] at H
   have c7b0 : (t113 == 0) = true := beq_iff_eq.mpr c7
   have c7b1 : (t113 != 0) = false := bne_eq_false_iff_eq.mpr c7
   clear c7
   by_cases c8 : t112.toList = ([123, 34, 97, 34, 58, 91, 49, 44, 116, 114, 117, 101, 44, 34, 120, 34, 93, 125] : List UInt8)
   ·rw [if_pos c8] at H
    have c8b0 : (t112.toList == ([123, 34, 97, 34, 58, 91, 49, 44, 116, 114, 117, 101, 44, 34, 120, 34, 93, 125] : List UInt8)) = true := beq_iff_eq.mpr c8
    have c8b1 : (t112.toList != ([123, 34, 97, 34, 58, 91, 49, 44, 116, 114, 117, 101, 44, 34, 120, 34, 93, 125] : List UInt8)) = false := bne_eq_false_iff_eq.mpr c8
    clear c8
    replace H := Option.bind_eq_some_iff.mp H
    obtain ⟨t127, A90, H⟩ := H
    obtain rfl : t122 = t127 := Option.some.inj A90
    replace H : (if t122 = 40 then (some (t123 == 3)) else none) = some r := H
    have A9 := am A90
    clear A90
    by_cases c10 : t122 = 40
    ·rw [if_pos c10] at H
     have c10b0 : (t122 == 40) = true := beq_iff_eq.mpr c10
     have c10b1 : (t122 != 40) = false := bne_eq_false_iff_eq.mpr c10
     clear c10
     obtain rfl := Option.some.inj H
     go_enter Tryz.func16, Tryz.ntmps16
     go_wp2_with (first | ((with_reducible refine gate_callee (f := 15) rfl ?_); refine goesL_ (some 10) rfl rfl Tryz.func15 (by kernel_rfl) rfl #[.string (⟨#[32, 123, 34, 97, 34, 32, 58, 32, 91, 49, 44, 32, 116, 114, 117, 101, 44, 32, 34, 120, 34, 93, 125, 32]⟩ : ByteArray)] rfl (by (try simp only [List.map_toArray, List.map_cons, List.map_nil]); first | done | rfl | (simp only [List.length_drop, List.length_take]; rfl)) ?_; (with_reducible refine (jtext_Parse.calls (⟨#[32, 123, 34, 97, 34, 32, 58, 32, 91, 49, 44, 32, 116, 114, 117, 101, 44, 32, 34, 120, 34, 93, 125, 32]⟩ : ByteArray) t101 t102 t103 t106 t109 t110 _ ?side1 A1.out).mono ?_); (case side1 => exact GL_below HG.out (by repeat (first | (with_reducible first | exact HB.out | apply below_alloc | apply pw_below_drewN | apply below_drew1) | exact HB.out))); rintro e w11 ⟨v104, v107, rfl, ho0, ho1, hb⟩; refine ⟨_, rfl, ?_⟩; have n0_ := am (Kd.R_lower ho0 (below_size (by repeat (first | (with_reducible first | exact HB.out | apply below_alloc | apply pw_below_drewN | apply below_drew1) | exact HB.out)))); have n1_ := am (Kd.R_lower ho1 (below_size (by repeat (first | (with_reducible first | exact HB.out | apply below_alloc | apply pw_below_drewN | apply below_drew1) | exact HB.out)))); have n2_ := am (below_step (by repeat (first | (with_reducible first | exact HB.out | apply below_alloc | apply pw_below_drewN | apply below_drew1) | exact HB.out)) hb); clear HB; have HO105 := n0_; have HO108 := n1_; have HB := n2_; clear n0_ n1_ n2_; (try clear hb); (try clear hb2); (try clear hk); (try clear hi); (try clear ho0); (try clear ho1)) | ((with_reducible refine gate_dst (N := 1) rfl ?_); refine box_event ?hg (N := 1) ?hd (cs := #[.int .i64 0, .string (⟨#[]⟩ : ByteArray), .slice none 0 0, .slice none 0 0]) (t := 25) ?hr ?_; (case hd => rfl); (case hg => rfl); (case hr => first | (go_simp; done) | (go_simp; rfl)); intro gb111 hg w12 hbox hb; have n0_ := am (Kd.R_below (by (with_reducible repeat (first | apply Kd.R_alloc | apply Kd.R_drewN | apply Kd.R_drew)); exact HO105.out) hb); have n1_ := am (Kd.R_below (Kd.R_elderB (by (with_reducible repeat (first | apply Kd.R_alloc | apply Kd.R_drewN | apply Kd.R_drew)); exact HO108.out) gb111 (Nat.le_of_eq hg.symm)) hb); have n2_ := am (below_step (by repeat (first | (with_reducible first | exact HB.out | apply below_alloc | apply pw_below_drewN | apply below_drew1) | exact HB.out)) hb); have n3_ := am (hbox); have n4_ := am ((by rw [hg]; exact (below_size (by repeat (first | (with_reducible first | exact HB.out | apply below_alloc | apply pw_below_drewN | apply below_drew1) | exact HB.out))) : w.heap.size ≤ gb111)); have n5_ := am ((by rw [hg]; exact (below_size (by repeat (first | (with_reducible first | exact HB.out | apply below_alloc | apply pw_below_drewN | apply below_drew1) | exact HB.out))) : w.heap.size ≤ gb111)); clear HO105; clear HO108; clear HB; have HO105 := n0_; have HO108 := n1_; have HB := n2_; have BK111 := n3_; have GW111 := n4_; have GE111 := n5_; clear n0_ n1_ n2_ n3_ n4_ n5_; clear hb hbox hg; have hcz13_0 : w12.cell? ⟨gb111, 0, none⟩ = some (.int .i64 0) := (blk_cell BK111.out 0).trans rfl; have hcz13_1 : w12.cell? ⟨gb111, 1, none⟩ = some (.string (⟨#[]⟩ : ByteArray)) := (blk_cell BK111.out 1).trans rfl; have hcz13_2 : w12.cell? ⟨gb111, 2, none⟩ = some (.slice none 0 0) := (blk_cell BK111.out 2).trans rfl; have hcz13_3 : w12.cell? ⟨gb111, 3, none⟩ = some (.slice none 0 0) := (blk_cell BK111.out 3).trans rfl; have hfz13_0 := blk_frozen BK111.out 0; have hfz13_1 := blk_frozen BK111.out 1; have hfz13_2 := blk_frozen BK111.out 2; have hfz13_3 := blk_frozen BK111.out 3; obtain ⟨Ao14, co14, eo14⟩ := Kd.R_slice HO105.out; subst eo14; obtain ⟨Ao15, co15, eo15⟩ := Kd.R_slice HO108.out; subst eo15) | ((with_reducible refine gate_callee (f := 58) rfl ?_); refine goesL_ (some 16) rfl rfl Tryz.func58 (by kernel_rfl) rfl #[.agg #[.int .i64 t101, .string t102, .slice Ao14 t103.length co14, .slice Ao15 t106.length co15]] rfl (by (try simp only [List.map_toArray, List.map_cons, List.map_nil]); first | done | rfl | (simp only [List.length_drop, List.length_take]; rfl)) ?_; (with_reducible refine (jtext_Print.calls t101 t102 _ _ t103 _ _ t106 t112 t113 _ ?side1 ?side2 ?side3 ?side4 ?side5 A2.out).mono ?_); (case side1 => refine (Kd.R_reads' (e := 9) (base := w.heap.size) (ok := fun k_ => True) (n := t103.length) (c := co14) ?_).2.2; exact (by (with_reducible repeat (first | apply Kd.R_alloc | apply Kd.R_drewN | apply Kd.R_drew)); exact (Kd.R_mono (Kd.R_far (p := ⟨gb111, 3, none⟩) (Kd.R_far (p := ⟨gb111, 2, none⟩) (Kd.R_far (p := ⟨gb111, 1, none⟩) (Kd.R_far (p := ⟨gb111, 0, none⟩) (Kd.R_types HO105.out BK111.out (by decide)) (fun _ hk => hk.2) (.int .i64 t101)) (fun _ hk => hk.2) (.string t102)) (fun _ hk => hk.2) (.slice Ao14 t103.length co14)) (fun _ hk => hk.2) (.slice Ao15 t106.length co15)) (fun _ h_ => h_.1)))); (case side2 => exact (Kd.R_reads' HO105.out).2.1); (case side3 => refine (Kd.R_reads' (e := 25) (base := w.heap.size) (ok := fun k_ => (some k_ ≠ (.slice Ao14 t103.length co14 : Value).ownBlock ∧ k_ ≠ gb111)) (n := t106.length) (c := co15) ?_).2.2; exact (by (with_reducible repeat (first | apply Kd.R_alloc | apply Kd.R_drewN | apply Kd.R_drew)); exact (Kd.R_mono (Kd.R_far (p := ⟨gb111, 3, none⟩) (Kd.R_far (p := ⟨gb111, 2, none⟩) (Kd.R_far (p := ⟨gb111, 1, none⟩) (Kd.R_far (p := ⟨gb111, 0, none⟩) (Kd.R_mono HO108.out (fun k_ hk => (⟨hk, hk.2⟩ : _ ∧ k_ ≠ gb111))) (fun _ hk => hk.2) (.int .i64 t101)) (fun _ hk => hk.2) (.string t102)) (fun _ hk => hk.2) (.slice Ao14 t103.length co14)) (fun _ hk => hk.2) (.slice Ao15 t106.length co15)) (fun _ h_ => h_.1)))); (case side4 => exact (Kd.R_reads' HO108.out).2.1); (case side5 => exact GL_below HG.out (by repeat (first | (with_reducible first | exact HB.out | apply below_alloc | apply pw_below_drewN | apply below_drew1 | refine below_set ?_ GE111.out) | exact HB.out))); rintro e w16 ⟨rfl, hb⟩; refine ⟨_, rfl, ?_⟩; have n0_ := am (Kd.R_below (by (with_reducible repeat (first | apply Kd.R_alloc | apply Kd.R_drewN | apply Kd.R_drew)); exact (Kd.R_mono (Kd.R_far (p := ⟨gb111, 3, none⟩) (Kd.R_far (p := ⟨gb111, 2, none⟩) (Kd.R_far (p := ⟨gb111, 1, none⟩) (Kd.R_far (p := ⟨gb111, 0, none⟩) (Kd.R_types HO105.out BK111.out (by decide)) (fun _ hk => hk.2) (.int .i64 t101)) (fun _ hk => hk.2) (.string t102)) (fun _ hk => hk.2) (.slice Ao14 t103.length co14)) (fun _ hk => hk.2) (.slice Ao15 t106.length co15)) (fun _ h_ => h_.1))) hb); have n1_ := am (Kd.R_below (by (with_reducible repeat (first | apply Kd.R_alloc | apply Kd.R_drewN | apply Kd.R_drew)); exact (Kd.R_mono (Kd.R_far (p := ⟨gb111, 3, none⟩) (Kd.R_far (p := ⟨gb111, 2, none⟩) (Kd.R_far (p := ⟨gb111, 1, none⟩) (Kd.R_far (p := ⟨gb111, 0, none⟩) (Kd.R_mono HO108.out (fun k_ hk => (⟨hk, hk.2⟩ : _ ∧ k_ ≠ gb111))) (fun _ hk => hk.2) (.int .i64 t101)) (fun _ hk => hk.2) (.string t102)) (fun _ hk => hk.2) (.slice Ao14 t103.length co14)) (fun _ hk => hk.2) (.slice Ao15 t106.length co15)) (fun _ h_ => h_.1))) hb); have n2_ := am (blk_below (g := gb111) (o := .cells #[.int .i64 t101, .string t102, .slice Ao14 t103.length co14, .slice Ao15 t106.length co15] 25 (0, 0)) (by (with_reducible repeat (first | refine blk_drewN ?_ _ | refine blk_drew ?_ | refine blk_alloc ?_ _)); refine blk_put (cs := #[.int .i64 t101, .string t102, .slice Ao14 t103.length co14, .slice none 0 0]) ?_ 3 _ rfl; (with_reducible repeat (first | refine blk_drewN ?_ _ | refine blk_drew ?_ | refine blk_alloc ?_ _)); refine blk_put (cs := #[.int .i64 t101, .string t102, .slice none 0 0, .slice none 0 0]) ?_ 2 _ rfl; (with_reducible repeat (first | refine blk_drewN ?_ _ | refine blk_drew ?_ | refine blk_alloc ?_ _)); refine blk_put (cs := #[.int .i64 t101, .string (⟨#[]⟩ : ByteArray), .slice none 0 0, .slice none 0 0]) ?_ 1 _ rfl; (with_reducible repeat (first | refine blk_drewN ?_ _ | refine blk_drew ?_ | refine blk_alloc ?_ _)); refine blk_put (cs := #[.int .i64 0, .string (⟨#[]⟩ : ByteArray), .slice none 0 0, .slice none 0 0]) ?_ 0 _ rfl; (with_reducible repeat (first | refine blk_drewN ?_ _ | refine blk_drew ?_ | refine blk_alloc ?_ _)); exact BK111.out) hb); have n3_ := am (below_step (by repeat (first | (with_reducible first | exact HB.out | apply below_alloc | apply pw_below_drewN | apply below_drew1 | refine below_set ?_ GE111.out) | exact HB.out)) hb); clear HO105; clear HO108; clear BK111; clear HB; have HO105 := n0_; have HO108 := n1_; have BK111 := n2_; have HB := n3_; clear n0_ n1_ n2_ n3_; (try clear hb); (try clear hb2); (try clear hk); (try clear hi)) | ((with_reducible refine gate_callee (f := 15) rfl ?_); refine goesL_ (some 20) rfl rfl Tryz.func15 (by kernel_rfl) rfl #[.string (⟨#[91, 49, 44, 93]⟩ : ByteArray)] rfl (by (try simp only [List.map_toArray, List.map_cons, List.map_nil]); first | done | rfl | (simp only [List.length_drop, List.length_take]; rfl)) ?_; (with_reducible refine (jtext_Parse.calls (⟨#[91, 49, 44, 93]⟩ : ByteArray) t114 t115 t116 t119 t122 t123 _ ?side1 A3.out).mono ?_); (case side1 => exact GL_below HG.out (by repeat (first | (with_reducible first | exact HB.out | apply below_alloc | apply pw_below_drewN | apply below_drew1 | refine below_set ?_ GE111.out) | exact HB.out))); rintro e w17 ⟨v117, v120, rfl, ho0, ho1, hb⟩; refine ⟨_, rfl, ?_⟩; have n0_ := am (Kd.R_elder' (by (with_reducible repeat (first | apply Kd.R_alloc | apply Kd.R_drewN | apply Kd.R_drew)); exact HO105.out) (Kd.R_base ho0) hb); have n1_ := am (Kd.R_mono (Kd.R_told (Kd.R_told (Kd.R_old (by (with_reducible repeat (first | apply Kd.R_alloc | apply Kd.R_drewN | apply Kd.R_drew)); exact HO108.out) hb) (Kd.R_base ho0)) (Kd.R_base ho1)) (fun _ h_ => h_.1)); have n2_ := am (Kd.R_lower (Kd.R_new' ho0 (Kd.R_lt (by (with_reducible repeat (first | apply Kd.R_alloc | apply Kd.R_drewN | apply Kd.R_drew)); exact HO105.out))) (below_size (by repeat (first | (with_reducible first | exact HB.out | apply below_alloc | apply pw_below_drewN | apply below_drew1 | refine below_set ?_ GE111.out) | exact HB.out)))); have n3_ := am (Kd.R_lower (Kd.R_newB (Kd.R_new' (Kd.R_new' ho1 (Kd.R_lt (by (with_reducible repeat (first | apply Kd.R_alloc | apply Kd.R_drewN | apply Kd.R_drew)); exact HO105.out))) (Kd.R_lt (by (with_reducible repeat (first | apply Kd.R_alloc | apply Kd.R_drewN | apply Kd.R_drew)); exact HO108.out))) (g := gb111) (o := .cells #[.int .i64 t101, .string t102, .slice Ao14 t103.length co14, .slice Ao15 t106.length co15] 25 (0, 0)) (by (with_reducible repeat (first | refine blk_drewN ?_ _ | refine blk_drew ?_ | refine blk_alloc ?_ _)); exact BK111.out)) (below_size (by repeat (first | (with_reducible first | exact HB.out | apply below_alloc | apply pw_below_drewN | apply below_drew1 | refine below_set ?_ GE111.out) | exact HB.out)))); have n4_ := am (blk_below (g := gb111) (o := .cells #[.int .i64 t101, .string t102, .slice Ao14 t103.length co14, .slice Ao15 t106.length co15] 25 (0, 0)) (by (with_reducible repeat (first | refine blk_drewN ?_ _ | refine blk_drew ?_ | refine blk_alloc ?_ _)); exact BK111.out) hb); have n5_ := am (below_step (by repeat (first | (with_reducible first | exact HB.out | apply below_alloc | apply pw_below_drewN | apply below_drew1 | refine below_set ?_ GE111.out) | exact HB.out)) hb); clear HO105; clear HO108; clear BK111; clear HB; have HO105 := n0_; have HO108 := n1_; have HO118 := n2_; have HO121 := n3_; have BK111 := n4_; have HB := n5_; clear n0_ n1_ n2_ n3_ n4_ n5_; (try clear hb); (try clear hb2); (try clear hk); (try clear hi); (try clear ho0); (try clear ho1)) | ((with_reducible refine gate_dst (N := 6) rfl ?_); refine box_event ?hg (N := 6) ?hd (cs := #[.int .i64 0, .string (⟨#[]⟩ : ByteArray), .slice none 0 0, .slice none 0 0]) (t := 25) ?hr ?_; (case hd => rfl); (case hg => rfl); (case hr => first | (go_simp; done) | (go_simp; rfl)); intro gb124 hg w18 hbox hb; have n0_ := am (Kd.R_below (by (with_reducible repeat (first | apply Kd.R_alloc | apply Kd.R_drewN | apply Kd.R_drew)); exact HO105.out) hb); have n1_ := am (Kd.R_below (Kd.R_elderB (by (with_reducible repeat (first | apply Kd.R_alloc | apply Kd.R_drewN | apply Kd.R_drew)); exact HO108.out) gb124 (Nat.le_of_eq hg.symm)) hb); have n2_ := am (Kd.R_below (by (with_reducible repeat (first | apply Kd.R_alloc | apply Kd.R_drewN | apply Kd.R_drew)); exact HO118.out) hb); have n3_ := am (Kd.R_below (Kd.R_elderB (by (with_reducible repeat (first | apply Kd.R_alloc | apply Kd.R_drewN | apply Kd.R_drew)); exact HO121.out) gb124 (Nat.le_of_eq hg.symm)) hb); have n4_ := am (blk_below (g := gb111) (o := .cells #[.int .i64 t101, .string t102, .slice Ao14 t103.length co14, .slice Ao15 t106.length co15] 25 (0, 0)) (by (with_reducible repeat (first | refine blk_drewN ?_ _ | refine blk_drew ?_ | refine blk_alloc ?_ _)); exact BK111.out) hb); have n5_ := am (below_step (by repeat (first | (with_reducible first | exact HB.out | apply below_alloc | apply pw_below_drewN | apply below_drew1 | refine below_set ?_ GE111.out) | exact HB.out)) hb); have n6_ := am (hbox); have n7_ := am ((by rw [hg]; exact (below_size (by repeat (first | (with_reducible first | exact HB.out | apply below_alloc | apply pw_below_drewN | apply below_drew1 | refine below_set ?_ GE111.out) | exact HB.out))) : w.heap.size ≤ gb124)); have n8_ := am ((by rw [hg]; exact (below_size (by repeat (first | (with_reducible first | exact HB.out | apply below_alloc | apply pw_below_drewN | apply below_drew1 | refine below_set ?_ GE111.out) | exact HB.out))) : w.heap.size ≤ gb124)); have n9_ := am ((by rw [hg]; exact Nat.ne_of_lt (blk_lt (g := gb111) (o := .cells #[.int .i64 t101, .string t102, .slice Ao14 t103.length co14, .slice Ao15 t106.length co15] 25 (0, 0)) (by (with_reducible repeat (first | refine blk_drewN ?_ _ | refine blk_drew ?_ | refine blk_alloc ?_ _)); exact BK111.out)) : gb111 ≠ gb124)); have n10_ := am ((by rw [hg]; exact Nat.ne_of_gt (blk_lt (g := gb111) (o := .cells #[.int .i64 t101, .string t102, .slice Ao14 t103.length co14, .slice Ao15 t106.length co15] 25 (0, 0)) (by (with_reducible repeat (first | refine blk_drewN ?_ _ | refine blk_drew ?_ | refine blk_alloc ?_ _)); exact BK111.out)) : gb124 ≠ gb111)); clear HO105; clear HO108; clear HO118; clear HO121; clear BK111; clear HB; have HO105 := n0_; have HO108 := n1_; have HO118 := n2_; have HO121 := n3_; have BK111 := n4_; have HB := n5_; have BK124 := n6_; have GW124 := n7_; have GE124 := n8_; have NB111_124 := n9_; have NB124_111 := n10_; clear n0_ n1_ n2_ n3_ n4_ n5_ n6_ n7_ n8_ n9_ n10_; clear hb hbox hg; have hnb19 := NB124_111.out; have hnc19 := NB111_124.out; have hcz20_0 : w18.cell? ⟨gb124, 0, none⟩ = some (.int .i64 0) := (blk_cell BK124.out 0).trans rfl; have hcz20_1 : w18.cell? ⟨gb124, 1, none⟩ = some (.string (⟨#[]⟩ : ByteArray)) := (blk_cell BK124.out 1).trans rfl; have hcz20_2 : w18.cell? ⟨gb124, 2, none⟩ = some (.slice none 0 0) := (blk_cell BK124.out 2).trans rfl; have hcz20_3 : w18.cell? ⟨gb124, 3, none⟩ = some (.slice none 0 0) := (blk_cell BK124.out 3).trans rfl; have hfz20_0 := blk_frozen BK124.out 0; have hfz20_1 := blk_frozen BK124.out 1; have hfz20_2 := blk_frozen BK124.out 2; have hfz20_3 := blk_frozen BK124.out 3; obtain ⟨Ao21, co21, eo21⟩ := Kd.R_slice HO118.out; subst eo21; obtain ⟨Ao22, co22, eo22⟩ := Kd.R_slice HO121.out; subst eo22) | ((with_reducible refine gate_callee (f := 17) rfl ?_); refine goesL_ (some 25) rfl rfl Tryz.func17 (by kernel_rfl) rfl #[.int .i64 t109] rfl (by (try simp only [List.map_toArray, List.map_cons, List.map_nil]); first | done | rfl | (simp only [List.length_drop, List.length_take]; rfl)) ?_; (with_reducible refine (wicketlaw04_num.calls t109 t109 _ A4.out).mono ?_); rintro e w' ⟨rfl, ⟨nd, rfl⟩⟩; refine ⟨_, rfl, ?_⟩) | (go_at_call 17; (with_reducible refine (wicketlaw04_num.calls t113 t113 _ A6.out).mono ?_); rintro e w' ⟨rfl, ⟨nd, rfl⟩⟩) | (go_at_call 17; (with_reducible refine (wicketlaw04_num.calls t122 t122 _ A9.out).mono ?_); rintro e w' ⟨rfl, ⟨nd, rfl⟩⟩))
     go_ret
     exact ⟨by first | rfl | (simp [errW_none, errW_some] <;> rfl) | (simp [*, errW_none, errW_some] <;> rfl), by repeat (first | (with_reducible first | exact HB.out | apply below_alloc | apply pw_below_drewN | apply below_drew1 | refine below_set ?_ GE111.out | refine below_set ?_ GE124.out) | exact HB.out)⟩
    ·rw [if_neg c10] at H
     have c10b0 : (t122 == 40) = false := beq_eq_false_iff_ne.mpr c10
     have c10b1 : (t122 != 40) = true := bne_iff_ne.mpr c10
     cases H
   ·rw [if_neg c8] at H
    have c8b0 : (t112.toList == ([123, 34, 97, 34, 58, 91, 49, 44, 116, 114, 117, 101, 44, 34, 120, 34, 93, 125] : List UInt8)) = false := beq_eq_false_iff_ne.mpr c8
    have c8b1 : (t112.toList != ([123, 34, 97, 34, 58, 91, 49, 44, 116, 114, 117, 101, 44, 34, 120, 34, 93, 125] : List UInt8)) = true := bne_iff_ne.mpr c8
    cases H
  ·rw [if_neg c7] at H
   have c7b0 : (t113 == 0) = false := beq_eq_false_iff_ne.mpr c7
   have c7b1 : (t113 != 0) = true := bne_iff_ne.mpr c7
   cases H
 ·rw [if_neg c5] at H
  have c5b0 : (t109 == 0) = false := beq_eq_false_iff_ne.mpr c5
  have c5b1 : (t109 != 0) = true := bne_iff_ne.mpr c5
  cases H
end Go.Proofs.YtpdelcbkcebkpaaGreatDoor.X
