-- WRITTEN BY gprint.py, a program of this session, out of the translation (over the kit's print.py): Lean checks it.
import Derived.Test.YtjnhdoaceegkoaaPGwx0
import Derived.Test.YtjnhdoaceegkoaaPGwx2
import Derived.Test.YtjnhdoaceegkoaaPGwx3
import Derived.WalkLawsBesides
import Derived.LoopTactic
import Derived.ProofKit
import Derived.Lib.Hide
import Derived.Deep.DeepCutAuto
import Derived.StillTailTactics
import Derived.IntWalk
import Derived.ScopeJumps
import Derived.WalkMore
import Derived.Maps.AppendAt
import Derived.Deep.DeepMust
import Derived.Deep.RegionLawGrows
namespace Go.Proofs.Ytjnhdoaceegkoaa.PGw
open Go.RowKit Go.Proofs.YtjnhdoaceegkoaaW.PrintWords Go.Proofs.YtjnhdoaceegkoaaW.PrintLast Go.Proofs.YtjnhdoaceegkoaaW.PrintMore
attribute [local go_sem] max2_int min2_int max_two min_two max_three min_three max_four min_four   -- for this text's walks alone
set_option linter.unusedVariables false
set_option linter.unusedSimpArgs false

--@given oriel/group.Group making=1 rounds=0 rsh=2:V
--@uses oriel/name.Level
--@import Derived.WalkLawsBesides
--@import Derived.LoopTactic
--@import Derived.ProofKit
--@import Derived.Lib.Hide
--@import Derived.Deep.DeepCutAuto
--@import Derived.StillTailTactics
--@import Derived.IntWalk
--@import Derived.ScopeJumps
--@import Derived.WalkMore
--@import Derived.Maps.AppendAt
--@import Derived.Deep.DeepMust
--@import Derived.Deep.RegionLawGrows
/-! ### group_Group: group.Group with its closures, by hand -/
theorem kt_info : (Try.prog.info? 27).map (fun i => (i.zero, i.size, i.bytes)) = some (some (.agg #[(.int .i64 0), (.int .i64 0), (.slice none 0 0)]), 3, 40) := by kernel_rfl
def gapply.T2 : Bool × List (List Nat × List Nat) := (true, [([], []), ([], []), ([1], [1]), ([2], [2]), ([3], [3]), ([], []), ([5], [5]), ([6], [6]), ([7], [7]), ([8], [8]), ([9], [9]), ([4, 10], [4, 10]), ([0, 0, 1, 2, 3, 4, 5, 6, 7, 8, 9, 10, 11], [0]), ([12, 0, 1, 2, 3, 4, 5, 6, 7, 8, 9, 10, 11], [12]), ([13, 11, 0, 1, 2, 3, 4, 5, 6, 7, 8, 9, 10, 11], [11, 13])])
def gapply.B2 : List Nat := [0, 0, 2, 6, 14, 0, 32, 96, 224, 480, 992, 2046, 4095, 8191, 16383]
theorem gapply.tab2 : rtab .any (opsOf Try.f51 2) = gapply.T2 := by kernel_rfl
theorem gapply.bits2 : waitsOk gapply.T2.2 gapply.B2 = true := by kernel_rfl
def gapply.T3 : Bool × List (List Nat × List Nat) := (true, [([], []), ([], []), ([1], [1]), ([2], [2]), ([3], [3]), ([], []), ([5], [5]), ([4, 6], [4, 6]), ([7], [7]), ([], []), ([9], [9]), ([10], [10]), ([11], [11]), ([], []), ([13], [13]), ([12, 14], [12, 14]), ([15], [15]), ([8, 16], [8, 16]), ([0, 17], [0, 17]), ([], []), ([19, 18, 0, 1, 2, 3, 4, 5, 6, 7, 8, 9, 10, 11, 12, 13, 14, 15, 16, 17, 18, 19], [18, 19])])
def gapply.B3 : List Nat := [0, 0, 2, 6, 14, 0, 32, 126, 254, 0, 512, 1536, 3584, 0, 8192, 32256, 65024, 131070, 262143, 0, 1048575]
theorem gapply.tab3 : rtab .any (opsOf Try.f51 3) = gapply.T3 := by kernel_rfl
theorem gapply.bits3 : waitsOk gapply.T3.2 gapply.B3 = true := by kernel_rfl
def gapply.T4 : Bool × List (List Nat × List Nat) := (true, [([], []), ([], []), ([1], [1]), ([2], [2]), ([3], [3]), ([], []), ([5], [5]), ([], []), ([7], [7]), ([4, 6, 8], [4, 6, 8]), ([], []), ([10], [10]), ([9, 11], [9, 11]), ([0, 0, 1, 2, 3, 4, 5, 6, 7, 8, 9, 10, 11, 12], [0]), ([13, 0, 1, 2, 3, 4, 5, 6, 7, 8, 9, 10, 11, 12], [13]), ([14, 12, 12, 0, 1, 2, 3, 4, 5, 6, 7, 8, 9, 10, 11, 12], [12, 14])])
def gapply.B4 : List Nat := [0, 0, 2, 6, 14, 0, 32, 0, 128, 510, 0, 1024, 4094, 8191, 16383, 32767]
theorem gapply.tab4 : rtab .any (opsOf Try.f51 4) = gapply.T4 := by kernel_rfl
theorem gapply.bits4 : waitsOk gapply.T4.2 gapply.B4 = true := by kernel_rfl

set_option linter.unusedSimpArgs false in
set_option maxHeartbeats 4000000 in
set_option maxRecDepth 100000 in
theorem apply_any (B g tb n cap wb m capw : Nat) (S a0 a1 a2 b0 b1 b2 : Value) (top : Int) (olds : List Value) (W : World)
    (hg : W.heap[g]? = some (.cells #[S, .slice (some ⟨tb, 0, none⟩) (n + 2) cap, .slice (some ⟨wb, 0, none⟩) (m + 1) capw] 82 (0, 0)))
    (hm : m + 1 ≤ capw) (hm2 : m ≤ 1000) (hn2 : n ≤ 1000) (hc2 : n + 2 ≤ cap) (htg : tb ≠ g) (hBg : B ≤ g)
    (hw : W.cell? ⟨wb, m, none⟩ = some (.int .i64 top)) (hol : olds.length = n * 3) (ho : ∀ j u, olds[j]? = some u → W.cell? ⟨tb, j, none⟩ = some u)
    (ha0 : W.cell? ⟨tb, n * 3, none⟩ = some a0) (ha1 : W.cell? ⟨tb, n * 3 + 1, none⟩ = some a1) (ha2 : W.cell? ⟨tb, n * 3 + 2, none⟩ = some a2)
    (hb0 : W.cell? ⟨tb, (n + 1) * 3, none⟩ = some b0) (hb1 : W.cell? ⟨tb, (n + 1) * 3 + 1, none⟩ = some b1) (hb2 : W.cell? ⟨tb, (n + 1) * 3 + 2, none⟩ = some b2) :
    Calls Try.prog 51 #[.pointer (some ⟨g, 0, none⟩)] W fun e w' => e = .returned (.tuple #[]) ∧ ∃ (kb : Nat) (v' : Value), W.heap.size ≤ kb ∧ w'.heap[kb]? = some (.cells #[a0, a1, a2, b0, b1, b2] 27 (0, 0)) ∧ w'.heap[g]? = some (.cells #[S, v', .slice (some ⟨wb, 0, none⟩) m capw] 82 (0, 0)) ∧ KeepBut W w' g none ∧ w'.ownsRow W.heap.size 27 3 v' (n + 1) (olds ++ [.int .i64 top, .int .i64 (-1), .slice (some ⟨kb, 0, none⟩) 2 2]) ∧ some kb ≠ v'.ownBlock ∧ Below B W w' := by
  have c1 : W.cell? ⟨g, 1, none⟩ = some (.slice (some ⟨tb, 0, none⟩) (n + 2) cap) := (blk_cell hg 1).trans rfl
  have c2 : W.cell? ⟨g, 2, none⟩ = some (.slice (some ⟨wb, 0, none⟩) (m + 1) capw) := (blk_cell hg 2).trans rfl
  have HG := Lib.hid hg
  have HO := Lib.hid ho
  have HOL := Lib.hid hol
  have HA := Lib.hid (And.intro ha0 (And.intro ha1 ha2))
  have HB := Lib.hid (And.intro hb0 (And.intro hb1 hb2))
  clear hg ho hol ha0 ha1 ha2 hb0 hb1 hb2
  go_enter Try.func51, Try.ntmps51
  go_wp2
  have e1 : IntKind.i64.wrap ((m : Int) + 1 - 1) = (m : Int) := by rw [IntWalk.i64_in _ (by omega)]; omega
  have p1 : 0 ≤ (m : Int) := by omega
  have p2 : (m : Int) < (m : Int) + 1 := by omega
  have p3 : ((m : Int)).toNat = m := by omega
  go_quiet (fail)
  clear e1 p2
  rename_i nq
  obtain ⟨W1, hW1⟩ : ∃ W1, W1 = W.drewN nq := ⟨_, rfl⟩
  have K1 : KeepBut W W1 g none := by rw [hW1]; exact keep_drewN (KeepBut.refl _ _ _) _
  have L1 : Below B W W1 := by rw [hW1]; exact pw_below_drewN (Below.refl _ _) _
  have hg1 : W1.heap[g]? = some (.cells #[S, .slice (some ⟨tb, 0, none⟩) (n + 2) cap, .slice (some ⟨wb, 0, none⟩) (m + 1) capw] 82 (0, 0)) := by rw [hW1]; exact HG.out
  rw [← hW1]
  clear hW1 c1 c2
  go_wp2
  have e2 : IntKind.i64.wrap (m : Int) = (m : Int) := IntWalk.i64_in _ (by omega)
  have p4 : (m : Int) ≤ (capw : Int) := by omega
  have p8 : ¬ (capw = 0) := by omega
  refine start_ (n := 15) (S := fun w' => w'.cell? ⟨g, 2, none⟩ = some (.slice (some ⟨wb, 0, none⟩) (m + 1) capw)) (ds := [14]) #[false, false, false, false, false, false, false, false, false, false, false, false, false, false, false] (by kernel_rfl) rfl rfl ((blk_cell hg1 2).trans rfl) (fun hHeld => ?_)
  refine with_tabW gapply.tab2 gapply.bits2 (fun HT_ HW_ => ?_)
  refine pure_ (i := 0) (N := some 22) (v := ?_) (a' := ?_) #[true, false, false, false, false, false, false, false, false, false, false, false, false, false, false] rfl rfl (any_of HT_.out (by kernel_rfl)) (fun _ _ _ h => h) (Or.inl ⟨by rfl, ?_⟩) ?_ ?_
  rotate_left
  · intro w'
    go_simp
    with_reducible rfl
  rotate_left
  · simp only [Act.put, List.setIfInBounds_toArray, List.set_cons_zero, List.set_cons_succ, i64_w, i32_w]
    rfl
  refine pure_ (i := 1) (N := some 23) (v := ?_) (a' := ?_) #[true, true, false, false, false, false, false, false, false, false, false, false, false, false, false] rfl rfl (any_of HT_.out (by kernel_rfl)) (fun _ _ _ h => h) (Or.inl ⟨by rfl, ?_⟩) ?_ ?_
  rotate_left
  · intro w'
    go_simp
    with_reducible rfl
  rotate_left
  · simp only [Act.put, List.setIfInBounds_toArray, List.set_cons_zero, List.set_cons_succ, i64_w, i32_w]
    rfl
  refine pure_ (i := 2) (N := some 24) (v := ?_) (a' := ?_) #[true, true, true, false, false, false, false, false, false, false, false, false, false, false, false] rfl rfl (any_of HT_.out (by kernel_rfl)) (fun _ _ _ h => h) (Or.inl ⟨by rfl, ?_⟩) ?_ ?_
  rotate_left
  · intro w'
    go_simp
    with_reducible rfl
  rotate_left
  · simp only [Act.put, List.setIfInBounds_toArray, List.set_cons_zero, List.set_cons_succ, i64_w, i32_w]
    rfl
  refine pure_ (i := 3) (N := some 25) (v := ?_) (a' := ?_) #[true, true, true, true, false, false, false, false, false, false, false, false, false, false, false] rfl rfl (any_of HT_.out (by kernel_rfl)) (fun _ _ _ h => h) (Or.inl ⟨by rfl, ?_⟩) ?_ ?_
  rotate_left
  · intro w'
    go_simp
    with_reducible rfl
  rotate_left
  · simp only [Act.put, List.setIfInBounds_toArray, List.set_cons_zero, List.set_cons_succ, i64_w, i32_w]
    rfl
  refine take_ (i := 4) (N := some 26) (v := ?_) (a' := ?_) #[true, true, true, true, true, false, false, false, false, false, false, false, false, false, false] rfl rfl (take_ofW HT_.out HW_.out (by kernel_rfl)) (fun _ _ _ h => h) (Or.inl ⟨by rfl, ?_⟩) hHeld ?_ ?_
  rotate_left
  · intro w' s0
    go_simp
    with_reducible rfl
  rotate_left
  · simp only [Act.put, List.setIfInBounds_toArray, List.set_cons_zero, List.set_cons_succ, i64_w, i32_w]
    rfl
  refine pure_ (i := 5) (N := some 27) (v := ?_) (a' := ?_) #[true, true, true, true, true, true, false, false, false, false, false, false, false, false, false] rfl rfl (any_of HT_.out (by kernel_rfl)) (fun _ _ _ h => h) (Or.inl ⟨by rfl, ?_⟩) ?_ ?_
  rotate_left
  · intro w'
    go_simp
    with_reducible rfl
  rotate_left
  · simp only [Act.put, List.setIfInBounds_toArray, List.set_cons_zero, List.set_cons_succ, i64_w, i32_w]
    rfl
  refine pure_ (i := 6) (N := some 28) (v := ?_) (a' := ?_) #[true, true, true, true, true, true, true, false, false, false, false, false, false, false, false] rfl rfl (any_of HT_.out (by kernel_rfl)) (fun _ _ _ h => h) (Or.inl ⟨by rfl, ?_⟩) ?_ ?_
  rotate_left
  · intro w'
    go_simp
    with_reducible rfl
  rotate_left
  · simp only [Act.put, List.setIfInBounds_toArray, List.set_cons_zero, List.set_cons_succ, i64_w, i32_w]
    rfl
  refine pure_ (i := 7) (N := some 29) (v := ?_) (a' := ?_) #[true, true, true, true, true, true, true, true, false, false, false, false, false, false, false] rfl rfl (any_of HT_.out (by kernel_rfl)) (fun _ _ _ h => h) (Or.inl ⟨by rfl, ?_⟩) ?_ ?_
  rotate_left
  · intro w'
    go_simp
    with_reducible rfl
  rotate_left
  · simp only [Act.put, List.setIfInBounds_toArray, List.set_cons_zero, List.set_cons_succ, i64_w, i32_w]
    rfl
  refine take_ (i := 8) (N := some 30) (v := ?_) (a' := ?_) #[true, true, true, true, true, true, true, true, true, false, false, false, false, false, false] rfl rfl (take_ofW HT_.out HW_.out (by kernel_rfl)) (fun _ _ _ h => h) (Or.inl ⟨by rfl, ?_⟩) hHeld ?_ ?_
  rotate_left
  · intro w' s0
    go_simp
    with_reducible rfl
  rotate_left
  · simp only [Act.put, List.setIfInBounds_toArray, List.set_cons_zero, List.set_cons_succ, i64_w, i32_w]
    rfl
  refine pure_ (i := 9) (N := some 31) (v := ?_) (a' := ?_) #[true, true, true, true, true, true, true, true, true, true, false, false, false, false, false] rfl rfl (any_of HT_.out (by kernel_rfl)) (fun _ _ _ h => h) (Or.inl ⟨by rfl, ?_⟩) ?_ ?_
  rotate_left
  · intro w'
    go_simp
    with_reducible rfl
  rotate_left
  · simp only [Act.put, List.setIfInBounds_toArray, List.set_cons_zero, List.set_cons_succ, i64_w, i32_w]
    rfl
  refine pure_ (i := 10) (N := some 32) (v := ?_) (a' := ?_) #[true, true, true, true, true, true, true, true, true, true, true, false, false, false, false] rfl rfl (any_of HT_.out (by kernel_rfl)) (fun _ _ _ h => h) (Or.inl ⟨by rfl, ?_⟩) ?_ ?_
  rotate_left
  · intro w'
    go_simp
    with_reducible rfl
  rotate_left
  · simp only [Act.put, List.setIfInBounds_toArray, List.set_cons_zero, List.set_cons_succ, i64_w, i32_w]
    rfl
  refine pure_ (i := 11) (N := some 33) (v := ?_) (a' := ?_) #[true, true, true, true, true, true, true, true, true, true, true, true, false, false, false] rfl rfl (any_of HT_.out (by kernel_rfl)) (fun _ _ _ h => h) (Or.inl ⟨by rfl, ?_⟩) ?_ ?_
  rotate_left
  · intro w'
    go_simp
    with_reducible rfl
  rotate_left
  · simp only [Act.put, List.setIfInBounds_toArray, List.set_cons_zero, List.set_cons_succ, i64_w, i32_w]
    rfl
  refine pure_ (i := 12) (N := some 34) (v := ?_) (a' := ?_) #[true, true, true, true, true, true, true, true, true, true, true, true, true, false, false] rfl rfl (any_of HT_.out (by kernel_rfl)) (fun _ _ _ h => h) (Or.inl ⟨by rfl, ?_⟩) ?_ ?_
  rotate_left
  · intro w'
    go_simp
    with_reducible rfl
  rotate_left
  · simp only [Act.put, List.setIfInBounds_toArray, List.set_cons_zero, List.set_cons_succ, i64_w, i32_w]
    rfl
  refine pure_ (i := 13) (N := some 35) (v := ?_) (a' := ?_) #[true, true, true, true, true, true, true, true, true, true, true, true, true, true, false] rfl rfl (any_of HT_.out (by kernel_rfl)) (fun _ _ _ h => h) (Or.inl ⟨by rfl, ?_⟩) ?_ ?_
  rotate_left
  · intro w'
    go_simp
    with_reducible rfl
  rotate_left
  · simp only [Act.put, List.setIfInBounds_toArray, List.set_cons_zero, List.set_cons_succ, i64_w, i32_w]
    rfl
  refine last_ (i := 14) (N := none) #[true, true, true, true, true, true, true, true, true, true, true, true, true, true, true] rfl rfl (one_of HT_.out (by kernel_rfl)) (by decide) (fun K hK => ?_)
  have hs2 : W1.drew.cell? ⟨g, 2, none⟩ = some (.slice (some ⟨wb, 0, none⟩) (m + 1) capw) := (blk_cell hg1 2).trans rfl
  have hf2 : W1.drew.frozen? ⟨g, 2, none⟩ = false := blk_frozen hg1 2
  refine skip_ (w1 := ?_) (by rfl) rfl ?_ ?_
  rotate_left
  · go_simp
    rfl
  refine hK.out _ _ ?_
  clear hK K hs2 hf2 hHeld
  refine done_ (done_of HT_.out (by kernel_rfl)) ?_
  clear HT_ HW_
  obtain ⟨W2, hW2⟩ : ∃ W2, W2 = (W1.setCell ⟨g, 2, none⟩ (.slice (some ⟨wb, 0, none⟩) m capw)).drew := ⟨_, rfl⟩
  have K2 : KeepBut W W2 g none := by rw [hW2]; exact keep_drew (K1.set_ 2 _)
  have L2 : Below B W W2 := by rw [hW2]; exact below_drew (L1.setCell (p := ⟨g, 2, none⟩) hBg _)
  have hg2 : W2.heap[g]? = some (.cells #[S, .slice (some ⟨tb, 0, none⟩) (n + 2) cap, .slice (some ⟨wb, 0, none⟩) m capw] 82 (0, 0)) := by rw [hW2]; exact blk_drew (blk_set hg1 2 _)
  rw [← hW2]
  clear hW2 K1 L1 hg1 e2 p4 p8
  have htb : tb ≠ g := by assumption
  have ca0 : W2.cell? ⟨tb, n * 3, none⟩ = some a0 := keep_cell K2 HA.out.1 htb
  have ca1 : W2.cell? ⟨tb, n * 3 + 1, none⟩ = some a1 := keep_cell K2 HA.out.2.1 htb
  have ca2 : W2.cell? ⟨tb, n * 3 + 2, none⟩ = some a2 := keep_cell K2 HA.out.2.2 htb
  have cb0 : W2.cell? ⟨tb, (n + 1) * 3, none⟩ = some b0 := keep_cell K2 HB.out.1 htb
  have cb1 : W2.cell? ⟨tb, (n + 1) * 3 + 1, none⟩ = some b1 := keep_cell K2 HB.out.2.1 htb
  have cb2 : W2.cell? ⟨tb, (n + 1) * 3 + 2, none⟩ = some b2 := keep_cell K2 HB.out.2.2 htb
  have HO2 : Hid (∀ j u, olds[j]? = some u → W2.cell? ⟨tb, j, none⟩ = some u) := Lib.hid (fun j u hu => keep_cell K2 (HO.out j u hu) htb)
  go_upto_region 3 with (fail)
  go_cut [4] (fun v4 wx => ∃ kb q : Nat, v4 = .pointer (some ⟨q, 0, none⟩) ∧ W.heap.size ≤ kb ∧ Hid (wx.heap[kb]? = some (.cells #[a0, a1, a2, b0, b1, b2] 27 (0, 0))) ∧ Hid (wx.heap[q]? = some (.cells #[.int .i64 top, .int .i64 (-1), .slice (some ⟨kb, 0, none⟩) 2 2] 27 (0, 0))) ∧ Below W2.heap.size W2 wx)
  case first =>
    have q1 : IntKind.i64.wrap (n : Int) = (n : Int) := IntWalk.i64_in _ (by omega)
    have q2 : IntKind.i64.wrap ((n : Int) + 1) = (n : Int) + 1 := IntWalk.i64_in _ (by omega)
    have q8 : wrap64 ((n : Int) + 2 - 1) = (n : Int) + 1 := by unfold wrap64; omega
    have q3 : 0 ≤ (n : Int) := by omega
    have q4 : (n : Int) < (n : Int) + 2 := by omega
    have q5 : 0 ≤ (n : Int) + 1 := by omega
    have q6 : (n : Int) + 1 < (n : Int) + 2 := by omega
    have q7 : ((n : Int) + 1).toNat = n + 1 := by omega
    refine start_ (n := 21) (S := fun w' => w'.cell? ⟨g, 1, none⟩ = some (.slice (some ⟨tb, 0, none⟩) (n + 2) cap) ∧ w'.cell? ⟨tb, n * 3, none⟩ = some a0 ∧ w'.cell? ⟨tb, n * 3 + 1, none⟩ = some a1 ∧ w'.cell? ⟨tb, n * 3 + 2, none⟩ = some a2 ∧ w'.cell? ⟨tb, (n + 1) * 3, none⟩ = some b0 ∧ w'.cell? ⟨tb, (n + 1) * 3 + 1, none⟩ = some b1 ∧ w'.cell? ⟨tb, (n + 1) * 3 + 2, none⟩ = some b2) (ds := [20]) #[false, false, false, false, false, false, false, false, false, false, false, false, false, false, false, false, false, false, false, false, false] (by kernel_rfl) rfl rfl ⟨(blk_cell hg2 1).trans rfl, ca0, ca1, ca2, cb0, cb1, cb2⟩ (fun hHeld => ?_)
    refine with_tabW gapply.tab3 gapply.bits3 (fun HT_ HW_ => ?_)
    refine pure_ (i := 0) (N := some 36) (v := ?_) (a' := ?_) #[true, false, false, false, false, false, false, false, false, false, false, false, false, false, false, false, false, false, false, false, false] rfl rfl (any_of HT_.out (by kernel_rfl)) (fun _ _ _ h => h) (Or.inl ⟨by rfl, ?_⟩) ?_ ?_
    rotate_left
    · intro w'
      go_simp
      with_reducible rfl
    rotate_left
    · simp only [Act.put, List.setIfInBounds_toArray, List.set_cons_zero, List.set_cons_succ, i64_w, i32_w]
      rfl
    refine pure_ (i := 1) (N := some 37) (v := ?_) (a' := ?_) #[true, true, false, false, false, false, false, false, false, false, false, false, false, false, false, false, false, false, false, false, false] rfl rfl (any_of HT_.out (by kernel_rfl)) (fun _ _ _ h => h) (Or.inl ⟨by rfl, ?_⟩) ?_ ?_
    rotate_left
    · intro w'
      go_simp
      with_reducible rfl
    rotate_left
    · simp only [Act.put, List.setIfInBounds_toArray, List.set_cons_zero, List.set_cons_succ, i64_w, i32_w]
      rfl
    refine pure_ (i := 2) (N := some 38) (v := ?_) (a' := ?_) #[true, true, true, false, false, false, false, false, false, false, false, false, false, false, false, false, false, false, false, false, false] rfl rfl (any_of HT_.out (by kernel_rfl)) (fun _ _ _ h => h) (Or.inl ⟨by rfl, ?_⟩) ?_ ?_
    rotate_left
    · intro w'
      go_simp
      with_reducible rfl
    rotate_left
    · simp only [Act.put, List.setIfInBounds_toArray, List.set_cons_zero, List.set_cons_succ, i64_w, i32_w]
      rfl
    refine pure_ (i := 3) (N := some 39) (v := ?_) (a' := ?_) #[true, true, true, true, false, false, false, false, false, false, false, false, false, false, false, false, false, false, false, false, false] rfl rfl (any_of HT_.out (by kernel_rfl)) (fun _ _ _ h => h) (Or.inl ⟨by rfl, ?_⟩) ?_ ?_
    rotate_left
    · intro w'
      go_simp
      with_reducible rfl
    rotate_left
    · simp only [Act.put, List.setIfInBounds_toArray, List.set_cons_zero, List.set_cons_succ, i64_w, i32_w]
      rfl
    refine take_ (i := 4) (N := some 40) (v := ?_) (a' := ?_) #[true, true, true, true, true, false, false, false, false, false, false, false, false, false, false, false, false, false, false, false, false] rfl rfl (take_ofW HT_.out HW_.out (by kernel_rfl)) (fun _ _ _ h => h) (Or.inl ⟨by rfl, ?_⟩) hHeld ?_ ?_
    rotate_left
    · rintro w' ⟨s0, s1, s2, s3, s4, s5, s6⟩
      go_simp
      with_reducible rfl
    rotate_left
    · simp only [Act.put, List.setIfInBounds_toArray, List.set_cons_zero, List.set_cons_succ, i64_w, i32_w]
      rfl
    refine pure_ (i := 5) (N := some 41) (v := ?_) (a' := ?_) #[true, true, true, true, true, true, false, false, false, false, false, false, false, false, false, false, false, false, false, false, false] rfl rfl (any_of HT_.out (by kernel_rfl)) (fun _ _ _ h => h) (Or.inl ⟨by rfl, ?_⟩) ?_ ?_
    rotate_left
    · intro w'
      go_simp
      with_reducible rfl
    rotate_left
    · simp only [Act.put, List.setIfInBounds_toArray, List.set_cons_zero, List.set_cons_succ, i64_w, i32_w]
      rfl
    refine pure_ (i := 6) (N := some 42) (v := ?_) (a' := ?_) #[true, true, true, true, true, true, true, false, false, false, false, false, false, false, false, false, false, false, false, false, false] rfl rfl (any_of HT_.out (by kernel_rfl)) (fun _ _ _ h => h) (Or.inl ⟨by rfl, ?_⟩) ?_ ?_
    rotate_left
    · intro w'
      go_simp
      with_reducible rfl
    rotate_left
    · simp only [Act.put, List.setIfInBounds_toArray, List.set_cons_zero, List.set_cons_succ, i64_w, i32_w]
      rfl
    refine pure_ (i := 7) (N := some 43) (v := ?_) (a' := ?_) #[true, true, true, true, true, true, true, true, false, false, false, false, false, false, false, false, false, false, false, false, false] rfl rfl (any_of HT_.out (by kernel_rfl)) (fun _ _ _ h => h) (Or.inl ⟨by rfl, ?_⟩) ?_ ?_
    rotate_left
    · intro w'
      go_simp
      with_reducible rfl
    rotate_left
    · simp only [Act.put, List.setIfInBounds_toArray, List.set_cons_zero, List.set_cons_succ, i64_w, i32_w]
      rfl
    refine take_ (i := 8) (N := some 44) (v := ?_) (a' := ?_) #[true, true, true, true, true, true, true, true, true, false, false, false, false, false, false, false, false, false, false, false, false] rfl rfl (take_ofW HT_.out HW_.out (by kernel_rfl)) (fun _ _ _ h => h) (Or.inl ⟨by rfl, ?_⟩) hHeld ?_ ?_
    rotate_left
    · rintro w' ⟨s0, s1, s2, s3, s4, s5, s6⟩
      go_simp
      with_reducible rfl
    rotate_left
    · simp only [Act.put, List.setIfInBounds_toArray, List.set_cons_zero, List.set_cons_succ, i64_w, i32_w]
      rfl
    refine pure_ (i := 9) (N := some 45) (v := ?_) (a' := ?_) #[true, true, true, true, true, true, true, true, true, true, false, false, false, false, false, false, false, false, false, false, false] rfl rfl (any_of HT_.out (by kernel_rfl)) (fun _ _ _ h => h) (Or.inl ⟨by rfl, ?_⟩) ?_ ?_
    rotate_left
    · intro w'
      go_simp
      with_reducible rfl
    rotate_left
    · simp only [Act.put, List.setIfInBounds_toArray, List.set_cons_zero, List.set_cons_succ, i64_w, i32_w]
      rfl
    refine pure_ (i := 10) (N := some 46) (v := ?_) (a' := ?_) #[true, true, true, true, true, true, true, true, true, true, true, false, false, false, false, false, false, false, false, false, false] rfl rfl (any_of HT_.out (by kernel_rfl)) (fun _ _ _ h => h) (Or.inl ⟨by rfl, ?_⟩) ?_ ?_
    rotate_left
    · intro w'
      go_simp
      with_reducible rfl
    rotate_left
    · simp only [Act.put, List.setIfInBounds_toArray, List.set_cons_zero, List.set_cons_succ, i64_w, i32_w]
      rfl
    refine pure_ (i := 11) (N := some 47) (v := ?_) (a' := ?_) #[true, true, true, true, true, true, true, true, true, true, true, true, false, false, false, false, false, false, false, false, false] rfl rfl (any_of HT_.out (by kernel_rfl)) (fun _ _ _ h => h) (Or.inl ⟨by rfl, ?_⟩) ?_ ?_
    rotate_left
    · intro w'
      go_simp
      with_reducible rfl
    rotate_left
    · simp only [Act.put, List.setIfInBounds_toArray, List.set_cons_zero, List.set_cons_succ, i64_w, i32_w]
      rfl
    refine take_ (i := 12) (N := some 48) (v := ?_) (a' := ?_) #[true, true, true, true, true, true, true, true, true, true, true, true, true, false, false, false, false, false, false, false, false] rfl rfl (take_ofW HT_.out HW_.out (by kernel_rfl)) (fun _ _ _ h => h) (Or.inl ⟨by rfl, ?_⟩) hHeld ?_ ?_
    rotate_left
    · rintro w' ⟨s0, s1, s2, s3, s4, s5, s6⟩
      go_simp
      with_reducible rfl
    rotate_left
    · simp only [Act.put, List.setIfInBounds_toArray, List.set_cons_zero, List.set_cons_succ, i64_w, i32_w]
      rfl
    refine pure_ (i := 13) (N := some 49) (v := ?_) (a' := ?_) #[true, true, true, true, true, true, true, true, true, true, true, true, true, true, false, false, false, false, false, false, false] rfl rfl (any_of HT_.out (by kernel_rfl)) (fun _ _ _ h => h) (Or.inl ⟨by rfl, ?_⟩) ?_ ?_
    rotate_left
    · intro w'
      go_simp
      with_reducible rfl
    rotate_left
    · simp only [Act.put, List.setIfInBounds_toArray, List.set_cons_zero, List.set_cons_succ, i64_w, i32_w]
      rfl
    refine pure_ (i := 14) (N := some 50) (v := ?_) (a' := ?_) #[true, true, true, true, true, true, true, true, true, true, true, true, true, true, true, false, false, false, false, false, false] rfl rfl (any_of HT_.out (by kernel_rfl)) (fun _ _ _ h => h) (Or.inl ⟨by rfl, ?_⟩) ?_ ?_
    rotate_left
    · intro w'
      go_simp
      with_reducible rfl
    rotate_left
    · simp only [Act.put, List.setIfInBounds_toArray, List.set_cons_zero, List.set_cons_succ, i64_w, i32_w]
      rfl
    refine pure_ (i := 15) (N := some 51) (v := ?_) (a' := ?_) #[true, true, true, true, true, true, true, true, true, true, true, true, true, true, true, true, false, false, false, false, false] rfl rfl (any_of HT_.out (by kernel_rfl)) (fun _ _ _ h => h) (Or.inl ⟨by rfl, ?_⟩) ?_ ?_
    rotate_left
    · intro w'
      go_simp
      with_reducible rfl
    rotate_left
    · simp only [Act.put, List.setIfInBounds_toArray, List.set_cons_zero, List.set_cons_succ, i64_w, i32_w]
      rfl
    refine take_ (i := 16) (N := some 52) (v := ?_) (a' := ?_) #[true, true, true, true, true, true, true, true, true, true, true, true, true, true, true, true, true, false, false, false, false] rfl rfl (take_ofW HT_.out HW_.out (by kernel_rfl)) (fun _ _ _ h => h) (Or.inl ⟨by rfl, ?_⟩) hHeld ?_ ?_
    rotate_left
    · rintro w' ⟨s0, s1, s2, s3, s4, s5, s6⟩
      go_simp
      with_reducible rfl
    rotate_left
    · simp only [Act.put, List.setIfInBounds_toArray, List.set_cons_zero, List.set_cons_succ, i64_w, i32_w]
      rfl
    have HS : ∀ X : World, Below W2.heap.size W2 X → (X.cell? ⟨g, 1, none⟩ = some (.slice (some ⟨tb, 0, none⟩) (n + 2) cap) ∧ X.cell? ⟨tb, n * 3, none⟩ = some a0 ∧ X.cell? ⟨tb, n * 3 + 1, none⟩ = some a1 ∧ X.cell? ⟨tb, n * 3 + 2, none⟩ = some a2 ∧ X.cell? ⟨tb, (n + 1) * 3, none⟩ = some b0 ∧ X.cell? ⟨tb, (n + 1) * 3 + 1, none⟩ = some b1 ∧ X.cell? ⟨tb, (n + 1) * 3 + 2, none⟩ = some b2) :=
      fun X hb => ⟨pw_cell_below hb ((blk_cell hg2 1).trans rfl), pw_cell_below hb ca0, pw_cell_below hb ca1, pw_cell_below hb ca2, pw_cell_below hb cb0, pw_cell_below hb cb1, pw_cell_below hb cb2⟩
    have HSH := Lib.hid HS
    clear HS
    refine two_ (i := 17) (j := 19) (Ni := some 53) (Nj := some 4) #[true, true, true, true, true, true, true, true, true, true, true, true, true, true, true, true, true, true, false, false, false] #[true, true, true, true, true, true, true, true, true, true, true, true, true, true, true, true, true, false, false, true, false] rfl rfl rfl rfl (two_of HT_.out (by kernel_rfl)) (by decide) (by decide) (fun K hK => ?_) (fun K hK => ?_)
    · refine value_ (w1 := ?_) (v := ?_) (by rfl) rfl ?_ ?_
      rotate_left 2
      · go_simp
        constructor
        · rfl
        · rfl
      refine hK.out _ _ (HSH.out _ (by repeat (first | exact Below.refl _ _ | apply below_alloc | apply below_drew))) (fun hHeld => ?_)
      clear hK K
      refine norm_ (a' := ?_) ?_ ?_
      rotate_left
      · show Act.put _ (some 53) _ = _
        simp only [Act.put, List.setIfInBounds_toArray, List.set_cons_zero, List.set_cons_succ, i64_w, i32_w]
        rfl
      refine pure_ (i := 18) (N := some 54) (v := ?_) (a' := ?_) #[true, true, true, true, true, true, true, true, true, true, true, true, true, true, true, true, true, true, true, false, false] rfl rfl (any_of HT_.out (by kernel_rfl)) (fun _ _ _ h => h) (Or.inl ⟨by rfl, ?_⟩) ?_ ?_
      rotate_left
      · intro w'
        go_simp
        with_reducible rfl
      rotate_left
      · simp only [Act.put, List.setIfInBounds_toArray, List.set_cons_zero, List.set_cons_succ, i64_w, i32_w]
        rfl
      refine one_ (i := 19) (N := some 4) #[true, true, true, true, true, true, true, true, true, true, true, true, true, true, true, true, true, true, true, true, false] rfl rfl (one_of HT_.out (by kernel_rfl)) (by decide) (fun K hK => ?_)
      refine value_ (w1 := ?_) (v := ?_) (by rfl) rfl ?_ ?_
      rotate_left 2
      · go_simp
        constructor
        · rfl
        · rfl
      refine hK.out _ _ (HSH.out _ (by repeat (first | exact Below.refl _ _ | apply below_alloc | apply below_drew))) (fun hHeld => ?_)
      clear hK K
      refine norm_ (a' := ?_) ?_ ?_
      rotate_left
      · show Act.put _ (some 4) _ = _
        simp only [Act.put, List.setIfInBounds_toArray, List.set_cons_zero, List.set_cons_succ, i64_w, i32_w]
        rfl
      refine last_ (i := 20) (N := none) #[true, true, true, true, true, true, true, true, true, true, true, true, true, true, true, true, true, true, true, true, true] rfl rfl (one_of HT_.out (by kernel_rfl)) (by decide) (fun K hK => ?_)
      refine skip_ (w1 := ?_) (by rfl) rfl ?_ ?_
      rotate_left
      · go_simp
        rfl
      refine hK.out _ _ ?_
      clear hK K hHeld
      refine done_ (done_of HT_.out (by kernel_rfl)) ?_
      try go_wp2
      go_meet
      refine ⟨W2.heap.size, W2.heap.size + 1, rfl, ?_, ?_, ?_, (by repeat (first | exact Below.refl _ _ | apply below_alloc | apply below_drew))⟩
      · have := K2.1; simp; omega
      · exact Lib.hid (blk_drew (heap_alloc2_old _ _ _))
      · exact Lib.hid (blk_drew (heap_alloc2_new _ _ _))
    · refine value_ (w1 := ?_) (v := ?_) (by rfl) rfl ?_ ?_
      rotate_left 2
      · go_simp
        constructor
        · rfl
        · rfl
      refine hK.out _ _ (HSH.out _ (by repeat (first | exact Below.refl _ _ | apply below_alloc | apply below_drew))) (fun hHeld => ?_)
      clear hK K
      refine norm_ (a' := ?_) ?_ ?_
      rotate_left
      · show Act.put _ (some 4) _ = _
        simp only [Act.put, List.setIfInBounds_toArray, List.set_cons_zero, List.set_cons_succ, i64_w, i32_w]
        rfl
      refine one_ (i := 17) (N := some 53) #[true, true, true, true, true, true, true, true, true, true, true, true, true, true, true, true, true, true, false, true, false] rfl rfl (one_of HT_.out (by kernel_rfl)) (by decide) (fun K hK => ?_)
      refine value_ (w1 := ?_) (v := ?_) (by rfl) rfl ?_ ?_
      rotate_left 2
      · go_simp
        constructor
        · rfl
        · rfl
      refine hK.out _ _ (HSH.out _ (by repeat (first | exact Below.refl _ _ | apply below_alloc | apply below_drew))) (fun hHeld => ?_)
      clear hK K
      refine norm_ (a' := ?_) ?_ ?_
      rotate_left
      · show Act.put _ (some 53) _ = _
        simp only [Act.put, List.setIfInBounds_toArray, List.set_cons_zero, List.set_cons_succ, i64_w, i32_w]
        rfl
      refine pure_ (i := 18) (N := some 54) (v := ?_) (a' := ?_) #[true, true, true, true, true, true, true, true, true, true, true, true, true, true, true, true, true, true, true, true, false] rfl rfl (any_of HT_.out (by kernel_rfl)) (fun _ _ _ h => h) (Or.inl ⟨by rfl, ?_⟩) ?_ ?_
      rotate_left
      · intro w'
        go_simp
        with_reducible rfl
      rotate_left
      · simp only [Act.put, List.setIfInBounds_toArray, List.set_cons_zero, List.set_cons_succ, i64_w, i32_w]
        rfl
      refine last_ (i := 20) (N := none) #[true, true, true, true, true, true, true, true, true, true, true, true, true, true, true, true, true, true, true, true, true] rfl rfl (one_of HT_.out (by kernel_rfl)) (by decide) (fun K hK => ?_)
      refine skip_ (w1 := ?_) (by rfl) rfl ?_ ?_
      rotate_left
      · go_simp
        rfl
      refine hK.out _ _ ?_
      clear hK K hHeld
      refine done_ (done_of HT_.out (by kernel_rfl)) ?_
      try go_wp2
      go_meet
      refine ⟨W2.heap.size + 1, W2.heap.size, rfl, ?_, ?_, ?_, (by repeat (first | exact Below.refl _ _ | apply below_alloc | apply below_drew))⟩
      · have := K2.1; simp; omega
      · exact Lib.hid (blk_drew (heap_alloc2_new _ _ _))
      · exact Lib.hid (blk_drew (heap_alloc2_old _ _ _))
  case rest =>
    obtain ⟨kb, q, rfl, hkb, HK, HQ, hbel⟩ := hcut
    have K3 : KeepBut W wc g none := K2.trans (KeepBut.of_below hbel g none) (.inl rfl)
    have L3 : Below B W wc := below_then L2 (by have := blk_lt hg2; omega) hbel
    have hg3 : wc.heap[g]? = some (.cells #[S, .slice (some ⟨tb, 0, none⟩) (n + 2) cap, .slice (some ⟨wb, 0, none⟩) m capw] 82 (0, 0)) := blk_below hg2 hbel
    have HO3 : Hid (∀ j u, olds[j]? = some u → wc.cell? ⟨tb, j, none⟩ = some u) := Lib.hid (fun j u hu => pw_cell_below hbel (HO2.out j u hu))
    clear hbel hg2 K2 L2 HO2 ca0 ca1 ca2 cb0 cb1 cb2
    have qb := blk_lt HQ.out
    go_upto_region 4 with (fail)
    have q1 : IntKind.i64.wrap (n : Int) = (n : Int) := IntWalk.i64_in _ (by omega)
    have q3 : 0 ≤ (n : Int) := by omega
    have q4 : (n : Int) ≤ (cap : Int) := by omega
    have q5 : n ≤ cap := by omega
    refine start_ (n := 16) (S := fun w' => w'.cell? ⟨g, 1, none⟩ = some (.slice (some ⟨tb, 0, none⟩) (n + 2) cap) ∧ w'.cell? ⟨q, 0, none⟩ = some (.int .i64 top) ∧ w'.cell? ⟨q, 1, none⟩ = some (.int .i64 (-1)) ∧ w'.cell? ⟨q, 2, none⟩ = some (.slice (some ⟨kb, 0, none⟩) 2 2)) (ds := [15]) #[false, false, false, false, false, false, false, false, false, false, false, false, false, false, false, false] (by kernel_rfl) rfl rfl ⟨(blk_cell hg3 1).trans rfl, (blk_cell HQ.out 0).trans rfl, (blk_cell HQ.out 1).trans rfl, (blk_cell HQ.out 2).trans rfl⟩ (fun hHeld => ?_)
    refine with_tabW gapply.tab4 gapply.bits4 (fun HT_ HW_ => ?_)
    refine pure_ (i := 0) (N := some 55) (v := ?_) (a' := ?_) #[true, false, false, false, false, false, false, false, false, false, false, false, false, false, false, false] rfl rfl (any_of HT_.out (by kernel_rfl)) (fun _ _ _ h => h) (Or.inl ⟨by rfl, ?_⟩) ?_ ?_
    rotate_left
    · intro w'
      go_simp
      with_reducible rfl
    rotate_left
    · simp only [Act.put, List.setIfInBounds_toArray, List.set_cons_zero, List.set_cons_succ, i64_w, i32_w]
      rfl
    refine pure_ (i := 1) (N := some 56) (v := ?_) (a' := ?_) #[true, true, false, false, false, false, false, false, false, false, false, false, false, false, false, false] rfl rfl (any_of HT_.out (by kernel_rfl)) (fun _ _ _ h => h) (Or.inl ⟨by rfl, ?_⟩) ?_ ?_
    rotate_left
    · intro w'
      go_simp
      with_reducible rfl
    rotate_left
    · simp only [Act.put, List.setIfInBounds_toArray, List.set_cons_zero, List.set_cons_succ, i64_w, i32_w]
      rfl
    refine pure_ (i := 2) (N := some 57) (v := ?_) (a' := ?_) #[true, true, true, false, false, false, false, false, false, false, false, false, false, false, false, false] rfl rfl (any_of HT_.out (by kernel_rfl)) (fun _ _ _ h => h) (Or.inl ⟨by rfl, ?_⟩) ?_ ?_
    rotate_left
    · intro w'
      go_simp
      with_reducible rfl
    rotate_left
    · simp only [Act.put, List.setIfInBounds_toArray, List.set_cons_zero, List.set_cons_succ, i64_w, i32_w]
      rfl
    refine pure_ (i := 3) (N := some 58) (v := ?_) (a' := ?_) #[true, true, true, true, false, false, false, false, false, false, false, false, false, false, false, false] rfl rfl (any_of HT_.out (by kernel_rfl)) (fun _ _ _ h => h) (Or.inl ⟨by rfl, ?_⟩) ?_ ?_
    rotate_left
    · intro w'
      go_simp
      with_reducible rfl
    rotate_left
    · simp only [Act.put, List.setIfInBounds_toArray, List.set_cons_zero, List.set_cons_succ, i64_w, i32_w]
      rfl
    refine take_ (i := 4) (N := some 59) (v := ?_) (a' := ?_) #[true, true, true, true, true, false, false, false, false, false, false, false, false, false, false, false] rfl rfl (take_ofW HT_.out HW_.out (by kernel_rfl)) (fun _ _ _ h => h) (Or.inl ⟨by rfl, ?_⟩) hHeld ?_ ?_
    rotate_left
    · rintro w' ⟨s0, s1, s2, s3⟩
      go_simp
      with_reducible rfl
    rotate_left
    · simp only [Act.put, List.setIfInBounds_toArray, List.set_cons_zero, List.set_cons_succ, i64_w, i32_w]
      rfl
    refine pure_ (i := 5) (N := some 60) (v := ?_) (a' := ?_) #[true, true, true, true, true, true, false, false, false, false, false, false, false, false, false, false] rfl rfl (any_of HT_.out (by kernel_rfl)) (fun _ _ _ h => h) (Or.inl ⟨by rfl, ?_⟩) ?_ ?_
    rotate_left
    · intro w'
      go_simp
      with_reducible rfl
    rotate_left
    · simp only [Act.put, List.setIfInBounds_toArray, List.set_cons_zero, List.set_cons_succ, i64_w, i32_w]
      rfl
    refine pure_ (i := 6) (N := some 61) (v := ?_) (a' := ?_) #[true, true, true, true, true, true, true, false, false, false, false, false, false, false, false, false] rfl rfl (any_of HT_.out (by kernel_rfl)) (fun _ _ _ h => h) (Or.inl ⟨by rfl, ?_⟩) ?_ ?_
    rotate_left
    · intro w'
      go_simp
      with_reducible rfl
    rotate_left
    · simp only [Act.put, List.setIfInBounds_toArray, List.set_cons_zero, List.set_cons_succ, i64_w, i32_w]
      rfl
    refine pure_ (i := 7) (N := some 62) (v := ?_) (a' := ?_) #[true, true, true, true, true, true, true, true, false, false, false, false, false, false, false, false] rfl rfl (any_of HT_.out (by kernel_rfl)) (fun _ _ _ h => h) (Or.inl ⟨by rfl, ?_⟩) ?_ ?_
    rotate_left
    · intro w'
      go_simp
      with_reducible rfl
    rotate_left
    · simp only [Act.put, List.setIfInBounds_toArray, List.set_cons_zero, List.set_cons_succ, i64_w, i32_w]
      rfl
    refine pure_ (i := 8) (N := some 63) (v := ?_) (a' := ?_) #[true, true, true, true, true, true, true, true, true, false, false, false, false, false, false, false] rfl rfl (any_of HT_.out (by kernel_rfl)) (fun _ _ _ h => h) (Or.inl ⟨by rfl, ?_⟩) ?_ ?_
    rotate_left
    · intro w'
      go_simp
      with_reducible rfl
    rotate_left
    · simp only [Act.put, List.setIfInBounds_toArray, List.set_cons_zero, List.set_cons_succ, i64_w, i32_w]
      rfl
    refine pure_ (i := 9) (N := some 64) (v := ?_) (a' := ?_) #[true, true, true, true, true, true, true, true, true, true, false, false, false, false, false, false] rfl rfl (any_of HT_.out (by kernel_rfl)) (fun _ _ _ h => h) (Or.inl ⟨by rfl, ?_⟩) ?_ ?_
    rotate_left
    · intro w'
      go_simp
      with_reducible rfl
    rotate_left
    · simp only [Act.put, List.setIfInBounds_toArray, List.set_cons_zero, List.set_cons_succ, i64_w, i32_w]
      rfl
    refine take_ (i := 10) (N := some 65) (v := ?_) (a' := ?_) #[true, true, true, true, true, true, true, true, true, true, true, false, false, false, false, false] rfl rfl (take_ofW HT_.out HW_.out (by kernel_rfl)) (fun _ _ _ h => h) (Or.inl ⟨by rfl, ?_⟩) hHeld ?_ ?_
    rotate_left
    · rintro w' ⟨s0, s1, s2, s3⟩
      go_simp
      with_reducible rfl
    rotate_left
    · simp only [Act.put, List.setIfInBounds_toArray, List.set_cons_zero, List.set_cons_succ, i64_w, i32_w]
      rfl
    refine one_ (i := 11) (N := some 66) #[true, true, true, true, true, true, true, true, true, true, true, true, false, false, false, false] rfl rfl (one_of HT_.out (by kernel_rfl)) (by decide) (fun K hK => ?_)
    refine value_ (w1 := ?_) (v := ?_) (by rfl) rfl ?_ ?_
    rotate_left 2
    · go_simp
      constructor
      · rfl
      · rfl
    have BW : Below wc.heap.size wc (wc.alloc (.cells #[.int .i64 top, .int .i64 (-1), .slice (some ⟨kb, 0, none⟩) 2 2] 27)).drew := below_drew (below_alloc (Below.refl _ _) _)
    refine hK.out _ _ ⟨pw_cell_below BW ((blk_cell hg3 1).trans rfl), pw_cell_below BW ((blk_cell HQ.out 0).trans rfl), pw_cell_below BW ((blk_cell HQ.out 1).trans rfl), pw_cell_below BW ((blk_cell HQ.out 2).trans rfl)⟩ (fun hHeld => ?_)
    clear hK K
    refine norm_ (a' := ?_) ?_ ?_
    rotate_left
    · show Act.put _ (some 66) _ = _
      simp only [Act.put, List.setIfInBounds_toArray, List.set_cons_zero, List.set_cons_succ, i64_w, i32_w]
      rfl
    refine one_ (i := 12) (N := some 67) #[true, true, true, true, true, true, true, true, true, true, true, true, true, false, false, false] rfl rfl (one_of HT_.out (by kernel_rfl)) (by decide) (fun K hK => ?_)
    obtain ⟨i0, hi, hz0, hz1, hz2⟩ := info_parts kt_info
    refine step_append_grows rfl (.tmp 64) (.tmp 66) 25 (by rfl) 27 i0 _ 3 40 Try.underlying25 hi hz0 hz1 hz2 rfl (by decide) (some ⟨tb, 0, none⟩) n n olds (by rfl) (by intro h; cases h) HOL.out ?aO ⟨wc.heap.size, 0, none⟩ 1 1 [.int .i64 top, .int .i64 (-1), .slice (some ⟨kb, 0, none⟩) 2 2] (by rfl) rfl ?aN ?aI (by omega) (by unfold maxLen; omega) (by omega) ?_
    case aO =>
      intro b hb j u hu
      cases hb
      rw [add_at, Nat.zero_add]
      exact pw_cell_below BW (HO3.out j u hu)
    case aN =>
      intro j u hu
      rw [add_at, Nat.zero_add]
      have hcell := (blk_cell (w := (wc.alloc (.cells #[.int .i64 top, .int .i64 (-1), .slice (some ⟨kb, 0, none⟩) 2 2] 27)).drew) (g := wc.heap.size) (blk_drew (blk_new wc _)) j)
      rw [hcell]
      simpa using hu
    case aI =>
      intro u hu
      simp at hu
      rcases hu with rfl | rfl | rfl <;> rfl
    intro v' w4 hown hgr
    have BW4 : Below wc.heap.size wc w4 := pw_below_grown BW none (by simp) hgr (fun k hk => by cases hk)
    have hg4 : w4.heap[g]? = some (.cells #[S, .slice (some ⟨tb, 0, none⟩) (n + 2) cap, .slice (some ⟨wb, 0, none⟩) m capw] 82 (0, 0)) := blk_below hg3 BW4
    have hK4 : w4.heap[kb]? = some (.cells #[a0, a1, a2, b0, b1, b2] 27 (0, 0)) := blk_below HK.out BW4
    have hQ4 : w4.heap[q]? = some (.cells #[.int .i64 top, .int .i64 (-1), .slice (some ⟨kb, 0, none⟩) 2 2] 27 (0, 0)) := blk_below HQ.out BW4
    have K4 : KeepBut W w4 g none := K3.trans (KeepBut.of_below BW4 g none) (.inl rfl)
    have L4 : Below B W w4 := below_then L3 (by have := blk_lt hg3; omega) BW4
    have hkv : ∀ k, v'.ownBlock = some k → wc.heap.size < k := fun k hk => by have := own_base hown k hk; simp at this; omega
    have hown4 : w4.ownsRow W.heap.size 27 3 v' (n + 1) (olds ++ [.int .i64 top, .int .i64 (-1), .slice (some ⟨kb, 0, none⟩) 2 2]) := own_weaken hown (by have := K3.1; simp; omega)
    have kblt := blk_lt HK.out
    have glt := blk_lt hg3
    have HF := Lib.hid (And.intro hK4 (And.intro K4 (And.intro hkv (And.intro hown4 (And.intro kblt (And.intro glt L4))))))
    obtain ⟨g', cap', hv'⟩ : ∃ g' cap', v' = .slice (some ⟨g', 0, none⟩) (n + 1) cap' := by
      rcases hown4.2 with ⟨_, h⟩ | ⟨g', cap', cur, h, _⟩
      · omega
      · exact ⟨g', cap', h⟩
    subst hv'
    refine hK.out _ _ ⟨(blk_cell hg4 1).trans rfl, (blk_cell hQ4 0).trans rfl, (blk_cell hQ4 1).trans rfl, (blk_cell hQ4 2).trans rfl⟩ (fun hHeld => ?_)
    clear hK K hown hgr hkv hown4 hK4 K4 L4
    refine norm_ (a' := ?_) ?_ ?_
    rotate_left
    · show Act.put _ (some 67) _ = _
      simp only [Act.put, List.setIfInBounds_toArray, List.set_cons_zero, List.set_cons_succ, i64_w, i32_w]
      rfl
    refine pure_ (i := 13) (N := some 68) (v := ?_) (a' := ?_) #[true, true, true, true, true, true, true, true, true, true, true, true, true, true, false, false] rfl rfl (any_of HT_.out (by kernel_rfl)) (fun _ _ _ h => h) (Or.inl ⟨by rfl, ?_⟩) ?_ ?_
    rotate_left
    · intro w'
      go_simp
      with_reducible rfl
    rotate_left
    · simp only [Act.put, List.setIfInBounds_toArray, List.set_cons_zero, List.set_cons_succ, i64_w, i32_w]
      rfl
    refine pure_ (i := 14) (N := some 69) (v := ?_) (a' := ?_) #[true, true, true, true, true, true, true, true, true, true, true, true, true, true, true, false] rfl rfl (any_of HT_.out (by kernel_rfl)) (fun _ _ _ h => h) (Or.inl ⟨by rfl, ?_⟩) ?_ ?_
    rotate_left
    · intro w'
      go_simp
      with_reducible rfl
    rotate_left
    · simp only [Act.put, List.setIfInBounds_toArray, List.set_cons_zero, List.set_cons_succ, i64_w, i32_w]
      rfl
    refine last_ (i := 15) (N := none) #[true, true, true, true, true, true, true, true, true, true, true, true, true, true, true, true] rfl rfl (one_of HT_.out (by kernel_rfl)) (by decide) (fun K hK => ?_)
    have hs1 : w4.cell? ⟨g, 1, none⟩ = some (.slice (some ⟨tb, 0, none⟩) (n + 2) cap) := (blk_cell hg4 1).trans rfl
    have hf1 : w4.frozen? ⟨g, 1, none⟩ = false := blk_frozen hg4 1
    refine skip_ (w1 := ?_) (by rfl) rfl ?_ ?_
    rotate_left
    · go_simp
      rfl
    refine hK.out _ _ ?_
    clear hK K hHeld hs1 hf1
    refine done_ (done_of HT_.out (by kernel_rfl)) ?_
    clear HT_ HW_
    go_wp2
    go_end0
    obtain ⟨hK4, K4, hkv, hown4, hklt, hglt, L4⟩ := HF.out
    have hne : g' ≠ g := by have := hkv g' (by simp [Value.ownBlock]); omega
    refine ⟨rfl, kb, .slice (some ⟨g', 0, none⟩) (n + 1) cap', hkb, ?_, ?_, K4.set_ 1 _, ?_, ?_, L4.setCell (p := ⟨g, 1, none⟩) hBg _⟩
    · exact (blk_far hK4 (by have := blk_lt HG.out; show kb ≠ g; omega) _)
    · exact blk_set hg4 1 _
    · exact own_move hown4 (fun k hk => by
        have hk' : g' = k := by simpa [Value.ownBlock] using hk
        subst hk'
        exact Below.heap_setCell _ _ _ _ hne)
    · have := hkv g' (by simp [Value.ownBlock])
      simp [Value.ownBlock]
      omega

theorem kind_9 {s : ByteArray} (h : kindB s = 9) : 0 < s.size := by
  apply toList_pos
  intro he
  unfold kindB at h
  rw [if_pos he] at h
  cases h
/-- a sign's level and side -/
def lv (s : ByteArray) : Int × Bool := (name_Level.f 10 s).getD (0, false)
theorem level_some (s : ByteArray) (hs : s.size ≤ 9223372036854775807) : name_Level.f 10 s = some (lv s) := by
  have h : (name_Level.f 10 s).isSome = true := by
    unfold name_Level.f name_Kind.f
    rw [if_pos hs]
    simp only [Option.bind_some]
    by_cases hk : kindB s = 9
    · rw [if_pos hk, if_pos (by have := kind_9 hk; omega)]
      have h3 : ∀ x b, (name_Level.j3 7 x b).isSome = true := by
        intro x b
        simp only [name_Level.j3]
        repeat' (first | rfl | split)
      have h2 : ∀ x b, (name_Level.j2 8 x b).isSome = true := by
        intro x b
        simp only [name_Level.j2]
        repeat' (first | rfl | exact h3 _ _ | split)
      have h1 : ∀ x b, (name_Level.j1 9 x b).isSome = true := by
        intro x b
        simp only [name_Level.j1]
        repeat' (first | rfl | exact h2 _ _ | split)
      have h0 : ∀ x b, (name_Level.j0 10 x b).isSome = true := by
        intro x b
        simp only [name_Level.j0]
        repeat' (first | rfl | exact h1 _ _ | split)
      repeat' (first | exact h0 _ _ | split)
    · rw [if_neg hk]
      rfl
  obtain ⟨r, hr⟩ := Option.isSome_iff_exists.1 h
  unfold lv
  rw [hr]; rfl
/-- is the last sign that waits applied ahead of x? -/
def strB (y x : ByteArray) : Bool := decide ((lv x).1 < (lv y).1) || (decide ((lv y).1 = (lv x).1) && !(lv x).2)
def gstr.T3 : Bool × List (List Nat × List Nat) := (true, [([], []), ([0], [0]), ([1], [1]), ([2], [2]), ([], []), ([4], [4]), ([5], [5]), ([6], [6]), ([], []), ([8], [8]), ([9], [9]), ([10], [10]), ([11], [11]), ([12], [12]), ([7, 13], [7, 13]), ([14], [14]), ([3, 15], [3, 15]), ([16], [16]), ([17], [17]), ([18], [18]), ([19], [19]), ([19], [19]), ([20, 18, 0, 1, 2, 3, 4, 5, 6, 7, 8, 9, 10, 11, 12, 13, 14, 15, 16, 17, 18, 19, 20], [20]), ([21, 22, 0, 1, 2, 3, 4, 5, 6, 7, 8, 9, 10, 11, 12, 13, 14, 15, 16, 17, 18, 19, 20, 21, 22], [21])])
def gstr.B3 : List Nat := [0, 1, 3, 7, 0, 16, 48, 112, 0, 256, 768, 1792, 3840, 7936, 16368, 32752, 65535, 131071, 262143, 524287, 1048575, 1048575, 2097151, 8388607]
theorem gstr.tab3 : rtab .any (opsOf Try.f50 3) = gstr.T3 := by kernel_rfl
theorem gstr.bits3 : waitsOk gstr.T3.2 gstr.B3 = true := by kernel_rfl

set_option maxHeartbeats 4000000 in
set_option maxRecDepth 100000 in
theorem stronger_none (g : Nat) (S T : Value) (ao : Option Addr) (capw : Nat) (x : ByteArray) (W : World)
    (hg : W.heap[g]? = some (.cells #[S, T, .slice ao 0 capw] 82 (0, 0))) :
    Calls Try.prog 50 #[.pointer (some ⟨g, 0, none⟩), .string x] W fun e w' => e = .returned (.bool false) ∧ w' = W := by
  have c2 : W.cell? ⟨g, 2, none⟩ = some (.slice ao 0 capw) := (blk_cell hg 2).trans rfl
  go_enter Try.func50, Try.ntmps50
  go_wp2
  go_ret
  exact ⟨rfl, rfl⟩
set_option linter.unusedSimpArgs false in
set_option maxHeartbeats 4000000 in
set_option maxRecDepth 100000 in
theorem stronger_some (g wb m capw top ls cs : Nat) (ad : Addr) (T : Value) (x y : ByteArray) (W : World)
    (hg : W.heap[g]? = some (.cells #[.slice (some ad) ls cs, T, .slice (some ⟨wb, 0, none⟩) (m + 1) capw] 82 (0, 0)))
    (hm2 : m ≤ 1000) (hw : W.cell? ⟨wb, m, none⟩ = some (.int .i64 top)) (hls : top < ls) (hy : W.cell? (ad.add top) = some (.string y))
    (hx : x.size ≤ 9223372036854775807) (hys : y.size ≤ 9223372036854775807) :
    Calls Try.prog 50 #[.pointer (some ⟨g, 0, none⟩), .string x] W fun e w' => e = .returned (.bool (strB y x)) ∧ Below W.heap.size W w' := by
  have c2 : W.cell? ⟨g, 2, none⟩ = some (.slice (some ⟨wb, 0, none⟩) (m + 1) capw) := (blk_cell hg 2).trans rfl
  have LY := Lib.hid (level_some y hys)
  have LX := Lib.hid (level_some x hx)
  have HG := Lib.hid hg
  clear hg hx hys
  go_enter Try.func50, Try.ntmps50
  have z0 : ((m : Int) + 1 == 0) = false := beq_eq_false_iff_ne.2 (by omega)
  go_wp2
  have c0 : W.cell? ⟨g, 0, none⟩ = some (.slice (some ad) ls cs) := (blk_cell HG.out 0).trans rfl
  have q1 : IntKind.i64.wrap (m : Int) = (m : Int) := IntWalk.i64_in _ (by omega)
  have q3 : 0 ≤ (m : Int) := by omega
  have q4 : (m : Int) < (m : Int) + 1 := by omega
  have q5 : 0 ≤ (top : Int) := by omega
  have q6 : (top : Int) < (ls : Int) := by omega
  refine start_ (n := 24) (S := fun w' => w'.cell? ⟨g, 0, none⟩ = some (.slice (some ad) ls cs) ∧ w'.cell? ⟨g, 2, none⟩ = some (.slice (some ⟨wb, 0, none⟩) (m + 1) capw) ∧ w'.cell? ⟨wb, m, none⟩ = some (.int .i64 top) ∧ w'.cell? (ad.add top) = some (.string y)) (ds := []) #[false, false, false, false, false, false, false, false, false, false, false, false, false, false, false, false, false, false, false, false, false, false, false, false] (by kernel_rfl) rfl rfl ⟨c0, c2, hw, hy⟩ (fun hHeld => ?_)
  refine with_tabW gstr.tab3 gstr.bits3 (fun HT_ HW_ => ?_)
  refine pure_ (i := 0) (N := some 16) (v := ?_) (a' := ?_) #[true, false, false, false, false, false, false, false, false, false, false, false, false, false, false, false, false, false, false, false, false, false, false, false] rfl rfl (any_of HT_.out (by kernel_rfl)) (fun _ _ _ h => h) (Or.inl ⟨by rfl, ?_⟩) ?_ ?_
  rotate_left
  · intro w'
    go_simp
    with_reducible rfl
  rotate_left
  · simp only [Act.put, List.setIfInBounds_toArray, List.set_cons_zero, List.set_cons_succ, i64_w, i32_w]
    rfl
  refine pure_ (i := 1) (N := some 17) (v := ?_) (a' := ?_) #[true, true, false, false, false, false, false, false, false, false, false, false, false, false, false, false, false, false, false, false, false, false, false, false] rfl rfl (any_of HT_.out (by kernel_rfl)) (fun _ _ _ h => h) (Or.inl ⟨by rfl, ?_⟩) ?_ ?_
  rotate_left
  · intro w'
    go_simp
    with_reducible rfl
  rotate_left
  · simp only [Act.put, List.setIfInBounds_toArray, List.set_cons_zero, List.set_cons_succ, i64_w, i32_w]
    rfl
  refine pure_ (i := 2) (N := some 18) (v := ?_) (a' := ?_) #[true, true, true, false, false, false, false, false, false, false, false, false, false, false, false, false, false, false, false, false, false, false, false, false] rfl rfl (any_of HT_.out (by kernel_rfl)) (fun _ _ _ h => h) (Or.inl ⟨by rfl, ?_⟩) ?_ ?_
  rotate_left
  · intro w'
    go_simp
    with_reducible rfl
  rotate_left
  · simp only [Act.put, List.setIfInBounds_toArray, List.set_cons_zero, List.set_cons_succ, i64_w, i32_w]
    rfl
  refine take_ (i := 3) (N := some 19) (v := ?_) (a' := ?_) #[true, true, true, true, false, false, false, false, false, false, false, false, false, false, false, false, false, false, false, false, false, false, false, false] rfl rfl (take_ofW HT_.out HW_.out (by kernel_rfl)) (fun _ _ _ h => h) (Or.inl ⟨by rfl, ?_⟩) hHeld ?_ ?_
  rotate_left
  · rintro w' ⟨s0, s1, s2, s3⟩
    go_simp
    with_reducible rfl
  rotate_left
  · simp only [Act.put, List.setIfInBounds_toArray, List.set_cons_zero, List.set_cons_succ, i64_w, i32_w]
    rfl
  refine pure_ (i := 4) (N := some 20) (v := ?_) (a' := ?_) #[true, true, true, true, true, false, false, false, false, false, false, false, false, false, false, false, false, false, false, false, false, false, false, false] rfl rfl (any_of HT_.out (by kernel_rfl)) (fun _ _ _ h => h) (Or.inl ⟨by rfl, ?_⟩) ?_ ?_
  rotate_left
  · intro w'
    go_simp
    with_reducible rfl
  rotate_left
  · simp only [Act.put, List.setIfInBounds_toArray, List.set_cons_zero, List.set_cons_succ, i64_w, i32_w]
    rfl
  refine pure_ (i := 5) (N := some 21) (v := ?_) (a' := ?_) #[true, true, true, true, true, true, false, false, false, false, false, false, false, false, false, false, false, false, false, false, false, false, false, false] rfl rfl (any_of HT_.out (by kernel_rfl)) (fun _ _ _ h => h) (Or.inl ⟨by rfl, ?_⟩) ?_ ?_
  rotate_left
  · intro w'
    go_simp
    with_reducible rfl
  rotate_left
  · simp only [Act.put, List.setIfInBounds_toArray, List.set_cons_zero, List.set_cons_succ, i64_w, i32_w]
    rfl
  refine pure_ (i := 6) (N := some 22) (v := ?_) (a' := ?_) #[true, true, true, true, true, true, true, false, false, false, false, false, false, false, false, false, false, false, false, false, false, false, false, false] rfl rfl (any_of HT_.out (by kernel_rfl)) (fun _ _ _ h => h) (Or.inl ⟨by rfl, ?_⟩) ?_ ?_
  rotate_left
  · intro w'
    go_simp
    with_reducible rfl
  rotate_left
  · simp only [Act.put, List.setIfInBounds_toArray, List.set_cons_zero, List.set_cons_succ, i64_w, i32_w]
    rfl
  refine take_ (i := 7) (N := some 23) (v := ?_) (a' := ?_) #[true, true, true, true, true, true, true, true, false, false, false, false, false, false, false, false, false, false, false, false, false, false, false, false] rfl rfl (take_ofW HT_.out HW_.out (by kernel_rfl)) (fun _ _ _ h => h) (Or.inl ⟨by rfl, ?_⟩) hHeld ?_ ?_
  rotate_left
  · rintro w' ⟨s0, s1, s2, s3⟩
    go_simp
    with_reducible rfl
  rotate_left
  · simp only [Act.put, List.setIfInBounds_toArray, List.set_cons_zero, List.set_cons_succ, i64_w, i32_w]
    rfl
  refine pure_ (i := 8) (N := some 24) (v := ?_) (a' := ?_) #[true, true, true, true, true, true, true, true, true, false, false, false, false, false, false, false, false, false, false, false, false, false, false, false] rfl rfl (any_of HT_.out (by kernel_rfl)) (fun _ _ _ h => h) (Or.inl ⟨by rfl, ?_⟩) ?_ ?_
  rotate_left
  · intro w'
    go_simp
    with_reducible rfl
  rotate_left
  · simp only [Act.put, List.setIfInBounds_toArray, List.set_cons_zero, List.set_cons_succ, i64_w, i32_w]
    rfl
  refine pure_ (i := 9) (N := some 25) (v := ?_) (a' := ?_) #[true, true, true, true, true, true, true, true, true, true, false, false, false, false, false, false, false, false, false, false, false, false, false, false] rfl rfl (any_of HT_.out (by kernel_rfl)) (fun _ _ _ h => h) (Or.inl ⟨by rfl, ?_⟩) ?_ ?_
  rotate_left
  · intro w'
    go_simp
    with_reducible rfl
  rotate_left
  · simp only [Act.put, List.setIfInBounds_toArray, List.set_cons_zero, List.set_cons_succ, i64_w, i32_w]
    rfl
  refine pure_ (i := 10) (N := some 26) (v := ?_) (a' := ?_) #[true, true, true, true, true, true, true, true, true, true, true, false, false, false, false, false, false, false, false, false, false, false, false, false] rfl rfl (any_of HT_.out (by kernel_rfl)) (fun _ _ _ h => h) (Or.inl ⟨by rfl, ?_⟩) ?_ ?_
  rotate_left
  · intro w'
    go_simp
    with_reducible rfl
  rotate_left
  · simp only [Act.put, List.setIfInBounds_toArray, List.set_cons_zero, List.set_cons_succ, i64_w, i32_w]
    rfl
  refine take_ (i := 11) (N := some 27) (v := ?_) (a' := ?_) #[true, true, true, true, true, true, true, true, true, true, true, true, false, false, false, false, false, false, false, false, false, false, false, false] rfl rfl (take_ofW HT_.out HW_.out (by kernel_rfl)) (fun _ _ _ h => h) (Or.inl ⟨by rfl, ?_⟩) hHeld ?_ ?_
  rotate_left
  · rintro w' ⟨s0, s1, s2, s3⟩
    go_simp
    with_reducible rfl
  rotate_left
  · simp only [Act.put, List.setIfInBounds_toArray, List.set_cons_zero, List.set_cons_succ, i64_w, i32_w]
    rfl
  refine pure_ (i := 12) (N := some 28) (v := ?_) (a' := ?_) #[true, true, true, true, true, true, true, true, true, true, true, true, true, false, false, false, false, false, false, false, false, false, false, false] rfl rfl (any_of HT_.out (by kernel_rfl)) (fun _ _ _ h => h) (Or.inl ⟨by rfl, ?_⟩) ?_ ?_
  rotate_left
  · intro w'
    go_simp
    with_reducible rfl
  rotate_left
  · simp only [Act.put, List.setIfInBounds_toArray, List.set_cons_zero, List.set_cons_succ, i64_w, i32_w]
    rfl
  refine pure_ (i := 13) (N := some 29) (v := ?_) (a' := ?_) #[true, true, true, true, true, true, true, true, true, true, true, true, true, true, false, false, false, false, false, false, false, false, false, false] rfl rfl (any_of HT_.out (by kernel_rfl)) (fun _ _ _ h => h) (Or.inl ⟨by rfl, ?_⟩) ?_ ?_
  rotate_left
  · intro w'
    go_simp
    with_reducible rfl
  rotate_left
  · simp only [Act.put, List.setIfInBounds_toArray, List.set_cons_zero, List.set_cons_succ, i64_w, i32_w]
    rfl
  refine pure_ (i := 14) (N := some 30) (v := ?_) (a' := ?_) #[true, true, true, true, true, true, true, true, true, true, true, true, true, true, true, false, false, false, false, false, false, false, false, false] rfl rfl (any_of HT_.out (by kernel_rfl)) (fun _ _ _ h => h) (Or.inl ⟨by rfl, ?_⟩) ?_ ?_
  rotate_left
  · intro w'
    go_simp
    with_reducible rfl
  rotate_left
  · simp only [Act.put, List.setIfInBounds_toArray, List.set_cons_zero, List.set_cons_succ, i64_w, i32_w]
    rfl
  refine take_ (i := 15) (N := some 31) (v := ?_) (a' := ?_) #[true, true, true, true, true, true, true, true, true, true, true, true, true, true, true, true, false, false, false, false, false, false, false, false] rfl rfl (take_ofW HT_.out HW_.out (by kernel_rfl)) (fun _ _ _ h => h) (Or.inl ⟨by rfl, ?_⟩) hHeld ?_ ?_
  rotate_left
  · rintro w' ⟨s0, s1, s2, s3⟩
    go_simp
    with_reducible rfl
  rotate_left
  · simp only [Act.put, List.setIfInBounds_toArray, List.set_cons_zero, List.set_cons_succ, i64_w, i32_w]
    rfl
  refine pure_ (i := 16) (N := some 32) (v := ?_) (a' := ?_) #[true, true, true, true, true, true, true, true, true, true, true, true, true, true, true, true, true, false, false, false, false, false, false, false] rfl rfl (any_of HT_.out (by kernel_rfl)) (fun _ _ _ h => h) (Or.inl ⟨by rfl, ?_⟩) ?_ ?_
  rotate_left
  · intro w'
    go_simp
    with_reducible rfl
  rotate_left
  · simp only [Act.put, List.setIfInBounds_toArray, List.set_cons_zero, List.set_cons_succ, i64_w, i32_w]
    rfl
  refine take_ (i := 17) (N := some 33) (v := ?_) (a' := ?_) #[true, true, true, true, true, true, true, true, true, true, true, true, true, true, true, true, true, true, false, false, false, false, false, false] rfl rfl (take_ofW HT_.out HW_.out (by kernel_rfl)) (fun _ _ _ h => h) (Or.inl ⟨by rfl, ?_⟩) hHeld ?_ ?_
  rotate_left
  · rintro w' ⟨s0, s1, s2, s3⟩
    go_simp
    with_reducible rfl
  rotate_left
  · simp only [Act.put, List.setIfInBounds_toArray, List.set_cons_zero, List.set_cons_succ, i64_w, i32_w]
    rfl
  refine one_ (i := 18) (N := some 34) #[true, true, true, true, true, true, true, true, true, true, true, true, true, true, true, true, true, true, true, false, false, false, false, false] rfl rfl (one_of HT_.out (by kernel_rfl)) (by decide) (fun K hK => ?_)
  refine goes_ Try.func49 (by kernel_rfl) rfl #[.string y] (by rfl) rfl rfl (by (try simp only [List.map_toArray, List.map_cons, List.map_nil]); first | done | rfl) ?_
  refine (name_Level.calls 10 y (lv y).1 (lv y).2 _ LY.out).mono ?_
  rintro e w1 ⟨rfl, hb1⟩
  refine ⟨_, rfl, ?_⟩
  have HB1 : Hid (Below W.heap.size W w1) := Lib.hid (below_step (below_drew (Below.refl _ _)) hb1)
  refine hK.out _ _ ⟨pw_cell_below HB1.out c0, pw_cell_below HB1.out c2, pw_cell_below HB1.out hw, pw_cell_below HB1.out hy⟩ (fun hHeld => ?_)
  clear hK K hb1
  refine norm_ (a' := ?_) ?_ ?_
  rotate_left
  · show Act.put _ (some 34) _ = _
    simp only [Act.put, List.setIfInBounds_toArray, List.set_cons_zero, List.set_cons_succ, i64_w, i32_w]
    rfl
  refine pure_ (i := 19) (N := some 15) (v := ?_) (a' := ?_) #[true, true, true, true, true, true, true, true, true, true, true, true, true, true, true, true, true, true, true, true, false, false, false, false] rfl rfl (any_of HT_.out (by kernel_rfl)) (fun _ _ _ h => h) (Or.inl ⟨by rfl, ?_⟩) ?_ ?_
  rotate_left
  · intro w'
    go_simp
    with_reducible rfl
  rotate_left
  · simp only [Act.put, List.setIfInBounds_toArray, List.set_cons_zero, List.set_cons_succ, i64_w, i32_w]
    rfl
  refine pure_ (i := 20) (N := some 35) (v := ?_) (a' := ?_) #[true, true, true, true, true, true, true, true, true, true, true, true, true, true, true, true, true, true, true, true, true, false, false, false] rfl rfl (any_of HT_.out (by kernel_rfl)) (fun _ _ _ h => h) (Or.inl ⟨by rfl, ?_⟩) ?_ ?_
  rotate_left
  · intro w'
    go_simp
    with_reducible rfl
  rotate_left
  · simp only [Act.put, List.setIfInBounds_toArray, List.set_cons_zero, List.set_cons_succ, i64_w, i32_w]
    rfl
  refine pure_ (i := 21) (N := some 36) (v := ?_) (a' := ?_) #[true, true, true, true, true, true, true, true, true, true, true, true, true, true, true, true, true, true, true, true, true, true, false, false] rfl rfl (any_of HT_.out (by kernel_rfl)) (fun _ _ _ h => h) (Or.inl ⟨by rfl, ?_⟩) ?_ ?_
  rotate_left
  · intro w'
    go_simp
    with_reducible rfl
  rotate_left
  · simp only [Act.put, List.setIfInBounds_toArray, List.set_cons_zero, List.set_cons_succ, i64_w, i32_w]
    rfl
  refine pure_ (i := 22) (N := some 5) (v := ?_) (a' := ?_) #[true, true, true, true, true, true, true, true, true, true, true, true, true, true, true, true, true, true, true, true, true, true, true, false] rfl rfl (any_of HT_.out (by kernel_rfl)) (fun _ _ _ h => h) (Or.inl ⟨by rfl, ?_⟩) ?_ ?_
  rotate_left
  · intro w'
    go_simp
    with_reducible rfl
  rotate_left
  · simp only [Act.put, List.setIfInBounds_toArray, List.set_cons_zero, List.set_cons_succ, i64_w, i32_w]
    rfl
  refine pure_ (i := 23) (N := some 6) (v := ?_) (a' := ?_) #[true, true, true, true, true, true, true, true, true, true, true, true, true, true, true, true, true, true, true, true, true, true, true, true] rfl rfl (any_of HT_.out (by kernel_rfl)) (fun _ _ _ h => h) (Or.inl ⟨by rfl, ?_⟩) ?_ ?_
  rotate_left
  · intro w'
    go_simp
    with_reducible rfl
  rotate_left
  · simp only [Act.put, List.setIfInBounds_toArray, List.set_cons_zero, List.set_cons_succ, i64_w, i32_w]
    rfl
  refine done_ (done_of HT_.out (by kernel_rfl)) ?_
  clear HT_ HW_ hHeld
  obtain ⟨ly, ry⟩ : ∃ p, p = lv y := ⟨_, rfl⟩
  obtain ⟨lx, rx⟩ : ∃ p, p = lv x := ⟨_, rfl⟩
  have hfin : strB y x = (decide (lx.1 < ly.1) || (decide (ly.1 = lx.1) && !lx.2)) := by rw [rx, ry]; rfl
  have HF := Lib.hid hfin
  have RX := Lib.hid rx
  rw [← ry]
  clear hfin rx ry LY
  go_wp2_with fail
  refine (name_Level.calls 10 x lx.1 lx.2 _ (by rw [LX.out, RX.out])).mono ?_
  rintro e w2 ⟨rfl, hb2⟩
  have HB2 := Lib.hid hb2
  clear hb2
  by_cases hlt : lx.1 < ly.1
  · go_wp2
    go_ret
    exact ⟨ret_bool (by rw [HF.out]; simp [hlt]), below_step HB1.out HB2.out⟩
  · by_cases heq : ly.1 = lx.1
    · have hbq : (ly.1 == lx.1) = true := by simpa using heq
      have HEQ := Lib.hid heq
      have HLT := Lib.hid hlt
      clear heq
      go_wp2
      go_ret
      exact ⟨ret_bool (by rw [HF.out]; simp [HEQ.out]), below_step HB1.out HB2.out⟩
    · have hbq : (ly.1 == lx.1) = false := by simpa using heq
      have HEQ := Lib.hid heq
      have HLT := Lib.hid hlt
      clear heq
      go_wp2
      go_ret
      exact ⟨ret_bool (by rw [HF.out]; simp [HEQ.out, HLT.out]), below_step HB1.out HB2.out⟩

def leafT (i : Nat) : S27 := ⟨-1, i, []⟩
def nodeT (w : Nat) (a b : S27) : S27 := ⟨w, -1, [a, b]⟩
/-- which blocks the terms' parts may lie in -/
def okI (b0 g r2 : Nat) (vT vW : Value) (k : Nat) : Prop := b0 ≤ k ∧ k ≠ g ∧ k ≠ r2 ∧ some k ≠ vW.ownBlock ∧ some k ≠ vT.ownBlock
/-- the stack in memory: signs that wait, terms: the topmost first -/
structure GI (w0 W : World) (g r2 : Nat) (sv : Value) (ws : List Nat) (ts : List S27) (vT vW : Value) (cells : List Value) : Prop where
  hg : W.heap[g]? = some (.cells #[sv, vT, vW] 82 (0, 0))
  hr : W.heap[r2]? = some (.cells #[.int .i64 0, .int .i64 0, .slice none 0 0] 27 (0, 0))
  g0 : w0.heap.size ≤ g
  r0 : w0.heap.size ≤ r2
  hT : W.ownsRow w0.heap.size 27 3 vT ts.length cells
  hW : W.ownsRow w0.heap.size 3 1 vW ws.length (ws.reverse.map fun (i : Nat) => Value.int .i64 (i : Int))
  nT : some r2 ≠ vT.ownBlock
  el : ∀ j x, ts.reverse[j]? = some x → Kd.FK k27 W (okI w0.heap.size g r2 vT vW) x ((cells.drop (j * 3)).take 3)
  bel : Below w0.heap.size w0 W

theorem own_form {w : World} {base e size n : Nat} {v : Value} {xs : List Value} (h : w.ownsRow base e size v n xs) (hn : 0 < n) :
    ∃ g cap, v = .slice (some ⟨g, 0, none⟩) n cap ∧ base ≤ g ∧ n ≤ cap ∧ xs.length = n * size ∧ (∃ cur, w.heap[g]? = some (.cells cur e (0, 0)) ∧ cur.size = cap * size ∧ cur.toList.take (n * size) = xs) ∧ ∀ j u, xs[j]? = some u → w.cell? ⟨g, j, none⟩ = some u := by
  obtain ⟨hl, h | ⟨g, cap, cur, rfl, hb, hh, hc, _, hs, ht⟩⟩ := h
  · omega
  · refine ⟨g, cap, rfl, hb, hc, hl, ⟨cur, hh, hs, ht⟩, fun j u hj => ?_⟩
    rw [cell_of_row _ _ j cur e (0, 0) hh]
    rw [← ht, List.getElem?_take] at hj
    split at hj
    · simpa using hj
    · cases hj
theorem F_pair {W : World} {ok : Nat → Prop} {kb : Nat} {a b : S27} {ca cb : List Value} (hk : ok kb)
    (ha : Kd.FK k27 W ok a ca) (hb : Kd.FK k27 W ok b cb) (hh : W.heap[kb]? = some (.cells (ca ++ cb).toArray 27 (0, 0))) : Kd.F k27 W ok (some ⟨kb, 0, none⟩) 2 [a, b] := by
  intro W' hW
  have h1 := ha W' hW
  have h2 := hb W' hW
  have l1 := k27.K_len h1
  have l2 := k27.K_len h2
  have hh' : W'.heap[kb]? = some (.cells (ca ++ cb).toArray 27 (0, 0)) := (hW kb hk (blk_lt hh)).trans hh
  have s3 : k27.sz = 3 := rfl
  rw [s3] at l1 l2
  refine ⟨rfl, by omega, fun _ => ⟨⟨kb, 0, none⟩, rfl, fun j p hj => ?_⟩⟩
  have hc : ∀ i, W'.cell? ⟨kb, i, none⟩ = (ca ++ cb)[i]? := fun i => by rw [cell_of_row _ _ i _ 27 (0, 0) hh']; simp
  match j, hj with
  | 0, hj =>
    obtain rfl : a = p := by simpa using hj
    refine ⟨ca, by rw [s3]; exact l1, h1, fun i u hi => ?_⟩
    rw [add_at, hc, List.getElem?_append_left (by have := (List.getElem?_eq_some_iff.1 hi).1; omega)]
    simpa using hi
  | 1, hj =>
    obtain rfl : b = p := by simpa using hj
    refine ⟨cb, by rw [s3]; exact l2, h2, fun i u hi => ?_⟩
    rw [add_at, hc, List.getElem?_append_right (by rw [s3]; omega)]
    rw [s3]
    rw [← hi]
    congr 1
    omega


theorem cells_get {cells : List Value} {j i : Nat} {u : Value} : ((cells.drop (j * 3)).take 3)[i]? = some u → cells[j * 3 + i]? = some u := by
  intro h
  rw [List.getElem?_take] at h
  split at h
  · rw [List.getElem?_drop] at h; exact h
  · cases h
theorem three_of_len {l : List Value} (h : l.length = 3) : ∃ a b c, l = [a, b, c] := by
  match l, h with
  | [a, b, c], _ => exact ⟨a, b, c, rfl⟩
def GS (w0 W : World) (g r2 : Nat) (sv : Value) (ws : List Nat) (ts : List S27) : Prop := ∃ vT vW cells, GI w0 W g r2 sv ws ts vT vW cells
theorem ret_unit_and {P Q : Prop} (h : P) (k : Q) : P ∧ Q := ⟨h, k⟩
theorem GS_apply {w0 W : World} {g r2 : Nat} {sv : Value} {w : Nat} {ws : List Nat} {a b : S27} {ts : List S27} (hs : GS w0 W g r2 sv (w :: ws) (b :: a :: ts)) (hlen : ts.length = ws.length) (hl : ws.length ≤ 900) :
    Calls Try.prog 51 #[.pointer (some ⟨g, 0, none⟩)] W fun e w' => e = .returned (.tuple #[]) ∧ GS w0 w' g r2 sv ws (nodeT w a b :: ts) := by
  obtain ⟨vT, vW, cells, h⟩ := hs
  obtain ⟨tb, cap, hvT, htb0, hcap, hcl, ⟨curT, hcurT, hcurTs, hcurTt⟩, hcell⟩ := own_form h.hT (by simp)
  obtain ⟨wb, capw, hvW, hwb0, hcapw, hcwl, ⟨curW, hcurW, hcurWs, hcurWt⟩, hcellw⟩ := own_form h.hW (by simp)
  simp only [List.length_cons] at hvT hvW hcap hcapw hcl
  have htg : tb ≠ g := blk_ne hcurT h.hg (by decide)
  have hwg : wb ≠ g := blk_ne hcurW h.hg (by decide)
  have hwt : wb ≠ tb := blk_ne hcurW hcurT (by decide)
  have hvTo : vT.ownBlock = some tb := by rw [hvT]; rfl
  have hvWo : vW.ownBlock = some wb := by rw [hvW]; rfl
  have e1 := h.el ts.length a (by simp)
  have e2 := h.el (ts.length + 1) b (by simp)
  have s3 : k27.sz = 3 := rfl
  have n1 : k27.K W a ((cells.drop (ts.length * 3)).take 3) := Kd.FK_now e1
  have n2 : k27.K W b ((cells.drop ((ts.length + 1) * 3)).take 3) := Kd.FK_now e2
  have l1 := k27.K_len n1
  have l2 := k27.K_len n2
  rw [s3] at l1 l2
  obtain ⟨a0, a1, a2, ha⟩ := three_of_len l1
  obtain ⟨b0, b1, b2, hb⟩ := three_of_len l2
  have ca : ∀ i u, [a0, a1, a2][i]? = some u → W.cell? ⟨tb, ts.length * 3 + i, none⟩ = some u := fun i u hi => hcell _ _ (cells_get (by rw [ha]; exact hi))
  have cb : ∀ i u, [b0, b1, b2][i]? = some u → W.cell? ⟨tb, (ts.length + 1) * 3 + i, none⟩ = some u := fun i u hi => hcell _ _ (cells_get (by rw [hb]; exact hi))
  have holds : ∀ j u, (cells.take (ts.length * 3))[j]? = some u → W.cell? ⟨tb, j, none⟩ = some u := fun j u hj => by
    rw [List.getElem?_take] at hj
    split at hj
    · exact hcell j u hj
    · cases hj
  have hw : W.cell? ⟨wb, ws.length, none⟩ = some (.int .i64 (w : Int)) := hcellw _ _ (by simp)
  have hgW : W.heap[g]? = some (.cells #[sv, .slice (some ⟨tb, 0, none⟩) (ts.length + 2) cap, .slice (some ⟨wb, 0, none⟩) (ws.length + 1) capw] 82 (0, 0)) := by
    rw [h.hg, hvT, hvW]
  refine (apply_any w0.heap.size g tb ts.length cap wb ws.length capw sv a0 a1 a2 b0 b1 b2 w (cells.take (ts.length * 3)) W hgW hcapw (by omega) (by omega) hcap htg h.g0 hw (by rw [List.length_take]; omega) holds (ca 0 _ rfl) (ca 1 _ rfl) (ca 2 _ rfl) (cb 0 _ rfl) (cb 1 _ rfl) (cb 2 _ rfl)).mono ?_
  rintro e w' ⟨rfl, kb, v', hkb, hkbc, hg', hkeep, hown, hkv, hbel⟩
  refine ⟨rfl, v', .slice (some ⟨wb, 0, none⟩) ws.length capw, cells.take (ts.length * 3) ++ [.int .i64 (w : Int), .int .i64 (-1), .slice (some ⟨kb, 0, none⟩) 2 2], ?_⟩
  have hkbW : ∀ k, v'.ownBlock = some k → W.heap.size ≤ k := fun k hk => own_base hown k hk
  have hr2W := blk_lt h.hr
  have hwbW := blk_lt hcurW
  have hgW' := blk_lt h.hg
  have hgr : g ≠ r2 := by
    intro e
    have h1 := h.hg
    rw [e, h.hr] at h1
    injection h1 with h1
    injection h1 with _ h1
    cases h1
  have hmv : ∀ k, k < W.heap.size → k ≠ g → w'.heap[k]? = W.heap[k]? := fun k hk hn => hkeep.2 k hk hn (by simp)
  have okmv : ∀ {x : S27} {c : List Value}, Kd.FK k27 W (okI w0.heap.size g r2 vT vW) x c → Kd.FK k27 w' (okI w0.heap.size g r2 v' (.slice (some ⟨wb, 0, none⟩) ws.length capw)) x c := fun hx =>
    Kd.FK_mono (Kd.FK_step (Kd.FK_bound hx) (fun k hk hlt => hmv k hlt hk.1.2.1)) (fun k hk => ⟨hk.1.1, hk.1.2.1, hk.1.2.2.1, fun he => hk.1.2.2.2.1 (by rw [hvWo]; simpa [Value.ownBlock] using he), fun he => by have := hkbW k he.symm; have := hk.2; omega⟩)
  have okkb : okI w0.heap.size g r2 v' (.slice (some ⟨wb, 0, none⟩) ws.length capw) kb :=
    ⟨by have := h.bel.size; omega, by omega, by omega, fun he => by simp [Value.ownBlock] at he; omega, hkv⟩
  refine ⟨hg', (hmv r2 hr2W (Ne.symm hgr)).trans h.hr, h.g0, h.r0, ?_, ?_, fun he => ?_, ?_, h.bel.trans hbel⟩
  · exact own_weaken hown (by have := h.bel.size; omega)
  · refine ⟨by simp, .inr ⟨wb, capw, curW, rfl, hwb0, (hmv wb hwbW hwg).trans hcurW, by omega, ?_, hcurWs, ?_⟩⟩
    · rcases h.hW.2 with ⟨_, h0⟩ | ⟨_, _, _, e, _, _, _, hm, _⟩
      · simp at h0
      · rw [hvW] at e
        injection e with _ _ e
        omega
    · have : curW.toList.take (ws.length * 1) = (curW.toList.take ((w :: ws).length * 1)).take ws.length := by
        rw [List.take_take]; congr 1; simp
      rw [this, hcurWt]
      simp
  · have := hkbW r2 he.symm
    omega
  · intro j x hj
    rw [List.reverse_cons, List.getElem?_append] at hj
    have hol : (cells.take (ts.length * 3)).length = ts.length * 3 := by rw [List.length_take]; omega
    split at hj
    · rename_i hlt
      simp at hlt
      have hel := h.el j x (by
        rw [List.reverse_cons, List.reverse_cons, List.append_assoc, List.getElem?_append_left (by simpa using hlt)]
        exact hj)
      have hc : ((cells.take (ts.length * 3) ++ [Value.int .i64 (w : Int), .int .i64 (-1), .slice (some ⟨kb, 0, none⟩) 2 2]).drop (j * 3)).take 3 = (cells.drop (j * 3)).take 3 := by
        rw [List.drop_append_of_le_length (by omega), List.take_append_of_le_length (by rw [List.length_drop]; omega), List.drop_take, List.take_take]
        congr 1
        omega
      rw [hc]
      exact okmv hel
    · rename_i hge
      simp at hge
      have : j = ts.length := by
        have := (List.getElem?_eq_some_iff.1 hj).1
        simp at this
        omega
      subst this
      obtain rfl : nodeT w a b = x := by simpa using hj
      rw [List.drop_append_of_le_length (by omega), List.drop_eq_nil_of_le (by omega), List.nil_append]
      refine k27_mkF w' _ (nodeT w a b) (Nat.le_refl _) ?_
      exact F_pair okkb (okmv (ha ▸ e1)) (okmv (hb ▸ e2)) hkbc


theorem GI_pushW {w0 W X w1 : World} {g r2 i : Nat} {sv vT vW v' : Value} {ws : List Nat} {ts : List S27} {cells : List Value} (h : GI w0 W g r2 sv ws ts vT vW cells) (hb : Below W.heap.size W X)
    (hown : w1.ownsRow w0.heap.size 3 1 v' (ws.length + 1) ((ws.reverse.map fun (i : Nat) => Value.int .i64 (i : Int)) ++ [.int .i64 (i : Int)])) (hgr : X.grownBy w1 vW.ownBlock)
    (hat : v'.ownBlock = vW.ownBlock ∨ v'.ownBlock = some X.heap.size) : GI w0 (w1.setCell ⟨g, 2, none⟩ v') g r2 sv (i :: ws) ts vT v' cells := by
  have hgW := blk_lt h.hg
  have hr2W := blk_lt h.hr
  have hXs := hb.size
  have hne : some g ≠ vW.ownBlock := fun e => by
    obtain ⟨c, hc⟩ := own_typed h.hW g e.symm
    have := h.hg
    rw [hc] at this
    injection this with this
    injection this with _ this
    cases this
  have hnr : some r2 ≠ vW.ownBlock := fun e => by
    obtain ⟨c, hc⟩ := own_typed h.hW r2 e.symm
    have := h.hr
    rw [hc] at this
    injection this with this
    injection this with _ this
    cases this
  have hgr2 : r2 ≠ g := fun e => by
    have := h.hr
    rw [e, h.hg] at this
    injection this with this
    injection this with _ this
    cases this
  have hmv : ∀ k, k < W.heap.size → some k ≠ vW.ownBlock → w1.heap[k]? = W.heap[k]? := fun k hk hn => (hgr.block k (by omega) hn).trans (hb.block k hk)
  have hv'W : ∀ k, some k = v'.ownBlock → k < W.heap.size → some k = vW.ownBlock := fun k hk hlt => by
    rcases hat with e | e
    · rw [← e]; exact hk
    · rw [e] at hk; injection hk with hk; omega
  have hgv : some g ≠ v'.ownBlock := fun e => hne (hv'W g e hgW)
  have hTn : ∀ k, vT.ownBlock = some k → some k ≠ vW.ownBlock := fun k hk e => by
    obtain ⟨c, hc⟩ := own_typed h.hT k hk
    obtain ⟨c', hc'⟩ := own_typed h.hW k e.symm
    rw [hc] at hc'
    injection hc' with hc'
    injection hc' with _ hc'
    cases hc'
  have hTg : ∀ k, vT.ownBlock = some k → k ≠ g := fun k hk e => by
    obtain ⟨c, hc⟩ := own_typed h.hT k hk
    have := h.hg
    rw [← e, hc] at this
    injection this with this
    injection this with _ this
    cases this
  have hset : ∀ k, k ≠ g → (w1.setCell ⟨g, 2, none⟩ v').heap[k]? = w1.heap[k]? := fun k hk => Below.heap_setCell _ _ _ _ hk
  refine ⟨blk_set ((hmv g hgW hne).trans h.hg) 2 v', (hset r2 hgr2).trans ((hmv r2 hr2W hnr).trans h.hr), h.g0, h.r0, ?_, ?_, h.nT, ?_, ?_⟩
  · exact own_move h.hT (fun k hk => (hset k (hTg k hk)).trans (hmv k (own_lt h.hT k hk) (hTn k hk)))
  · rw [List.reverse_cons, List.map_append]
    exact own_move hown (fun k hk => hset k (fun e => hgv (by rw [hk, e])))
  · intro j x hj
    exact Kd.FK_mono (Kd.FK_step (Kd.FK_bound (h.el j x hj)) (fun k hk hlt => (hset k hk.1.2.1).trans (hmv k hlt hk.1.2.2.2.1))) (fun k hk => ⟨hk.1.1, hk.1.2.1, hk.1.2.2.1, fun e => hk.1.2.2.2.1 (hv'W k e hk.2), hk.1.2.2.2.2⟩)
  · have h1 : Below w0.heap.size w0 X := below_then h.bel h.bel.size hb
    have h2 : Below w0.heap.size w0 w1 := pw_below_grown h1 _ h1.size hgr (fun k hk => own_base h.hW k hk)
    exact below_set h2 h.g0

theorem own_set3 {W : World} {base gg cap n : Nat} {cells : List Value} {x y z x' y' z' : Value} (h : W.ownsRow base 27 3 (.slice (some ⟨gg, 0, none⟩) (n + 1) cap) (n + 1) (cells ++ [x, y, z])) (hl : cells.length = n * 3) :
    (((W.setCell ⟨gg, n * 3, none⟩ x').setCell ⟨gg, n * 3 + 1, none⟩ y').setCell ⟨gg, n * 3 + 2, none⟩ z').ownsRow base 27 3 (.slice (some ⟨gg, 0, none⟩) (n + 1) cap) (n + 1) (cells ++ [x', y', z']) := by
  obtain ⟨hln, h | ⟨g, c, cur, e, hb, hh, hc, hm, hs, ht⟩⟩ := h
  · omega
  · injection e with e1 e2 e3
    injection e1 with e1
    injection e1 with e1
    subst e1 e3
    refine ⟨by simp [hl]; omega, .inr ⟨gg, cap, _, rfl, hb, blk_set (blk_set (blk_set hh _ x') _ y') _ z', hc, hm, by simpa using hs, ?_⟩⟩
    have hsz : (n + 1) * 3 ≤ cur.toList.length := by simp; rw [hs]; exact Nat.mul_le_mul_right 3 hc
    apply List.ext_getElem?
    intro j
    simp only [Array.toList_setIfInBounds]
    have htj : ∀ k, k < n * 3 → cur.toList[k]? = cells[k]? := fun k hk => by
      have := congrArg (fun l => l[k]?) ht
      simp only [List.getElem?_take] at this
      rw [if_pos (by omega), List.getElem?_append_left (by omega)] at this
      exact this
    rw [List.getElem?_take]
    by_cases hj : j < (n + 1) * 3
    · rw [if_pos hj]
      by_cases hj2 : j < n * 3
      · rw [List.getElem?_set_ne (by omega), List.getElem?_set_ne (by omega), List.getElem?_set_ne (by omega), htj j hj2, List.getElem?_append_left (by omega)]
      · rw [List.getElem?_append_right (by omega)]
        have hlen : cur.toList.length = cap * 3 := by simpa using hs
        rcases (show j = n * 3 ∨ j = n * 3 + 1 ∨ j = n * 3 + 2 from by omega) with rfl | rfl | rfl
        · rw [List.getElem?_set_ne (by omega), List.getElem?_set_ne (by omega), List.getElem?_set_self (by omega)]
          simp [hl]
        · rw [List.getElem?_set_ne (by omega), List.getElem?_set_self (by simp; omega)]
          simp [hl]
        · rw [List.getElem?_set_self (by simp; omega)]
          simp [hl]
    · rw [if_neg hj, List.getElem?_eq_none (by simp [hl]; omega)]

theorem GI_pushT {w0 W X w1 Y : World} {g r2 gg cap : Nat} {sv vT vW : Value} {ws : List Nat} {ts : List S27} {cells : List Value} {t : S27} {c3 : List Value} (h : GI w0 W g r2 sv ws ts vT vW cells) (hb : Below W.heap.size W X)
    (hgr : X.grownBy w1 vT.ownBlock) (hat : vT.ownBlock = some gg ∨ gg = X.heap.size)
    (hY : Y.heap[g]? = some (.cells #[sv, .slice (some ⟨gg, 0, none⟩) (ts.length + 1) cap, vW] 82 (0, 0)))
    (hown : Y.ownsRow w0.heap.size 27 3 (.slice (some ⟨gg, 0, none⟩) (ts.length + 1) cap) (ts.length + 1) (cells ++ c3))
    (hset : ∀ k, k ≠ g → k ≠ gg → Y.heap[k]? = w1.heap[k]?) (hbel : Below w0.heap.size w0 Y)
    (ht : ∀ ok : Nat → Prop, Kd.FK k27 Y ok t c3) :
    GI w0 Y g r2 sv ws (t :: ts) (.slice (some ⟨gg, 0, none⟩) (ts.length + 1) cap) vW (cells ++ c3) := by
  have hgW := blk_lt h.hg
  have hr2W := blk_lt h.hr
  have hXs := hb.size
  have tyne : ∀ {k : Nat} {c c' : Array Value} {t t' : TypeId}, W.heap[k]? = some (.cells c t (0, 0)) → W.heap[k]? = some (.cells c' t' (0, 0)) → t = t' := fun h1 h2 => by
    rw [h1] at h2
    injection h2 with h2
    injection h2 with _ h2
  have hgT : some g ≠ vT.ownBlock := fun e => by
    obtain ⟨c, hc⟩ := own_typed h.hT g e.symm
    have := tyne hc h.hg
    cases this
  have hgr2 : r2 ≠ g := fun e => by
    have h1 := h.hr
    rw [e] at h1
    have := tyne h1 h.hg
    cases this
  have hgg : gg ≠ g := fun e => by
    rcases hat with e' | e'
    · exact hgT (by rw [e', e])
    · omega
  have hr2g : r2 ≠ gg := fun e => by
    rcases hat with e' | e'
    · exact h.nT (by rw [e', e])
    · omega
  have hmv : ∀ k, k < W.heap.size → some k ≠ vT.ownBlock → k ≠ g → Y.heap[k]? = W.heap[k]? := fun k hk hn hkg => by
    have hkgg : k ≠ gg := fun e => by
      rcases hat with e' | e'
      · exact hn (by rw [e', e])
      · omega
    exact (hset k hkg hkgg).trans ((hgr.block k (by omega) hn).trans (hb.block k hk))
  refine ⟨hY, (hmv r2 hr2W h.nT hgr2).trans h.hr, h.g0, h.r0, by simpa using hown, ?_, ?_, ?_, hbel⟩
  · refine own_move h.hW (fun k hk => hmv k (own_lt h.hW k hk) (fun e => ?_) (fun e => ?_))
    · obtain ⟨c, hc⟩ := own_typed h.hT k e.symm
      obtain ⟨c', hc'⟩ := own_typed h.hW k hk
      have := tyne hc hc'
      cases this
    · obtain ⟨c', hc'⟩ := own_typed h.hW k hk
      rw [e] at hc'
      have := tyne hc' h.hg
      cases this
  · simp only [Value.ownBlock]
    intro e
    injection e with e
    exact hr2g e
  · intro j x hj
    have hcl : cells.length = ts.length * 3 := h.hT.1
    have hc3 : c3.length = 3 := by
      have n1 : k27.K Y t c3 := Kd.FK_now (ht (fun _ => True))
      have := k27.K_len n1
      exact this
    rw [List.reverse_cons, List.getElem?_append] at hj
    split at hj
    · rename_i hlt
      simp at hlt
      rw [List.drop_append_of_le_length (by omega), List.take_append_of_le_length (by rw [List.length_drop]; omega)]
      refine Kd.FK_mono (Kd.FK_step (Kd.FK_bound (h.el j x hj)) (fun k hk hlt' => hmv k hlt' hk.1.2.2.2.2 hk.1.2.1)) (fun k hk => ⟨hk.1.1, hk.1.2.1, hk.1.2.2.1, hk.1.2.2.2.1, fun e => ?_⟩)
      simp only [Value.ownBlock] at e
      injection e with e
      rcases hat with e' | e'
      · exact hk.1.2.2.2.2 (by rw [e', e])
      · have := hk.2; omega
    · rename_i hge
      simp at hge
      have hjl : j = ts.length := by
        have := (List.getElem?_eq_some_iff.1 hj).1
        simp at this
        omega
      subst hjl
      obtain rfl : t = x := by simpa using hj
      rw [List.drop_append_of_le_length (by omega), List.drop_eq_nil_of_le (by omega), List.nil_append, List.take_of_length_le (by omega)]
      exact ht _


def popA (l : List ByteArray) (x : ByteArray) : List Nat → List S27 → List Nat × List S27
  | w :: ws, b :: a :: ts => if strB (l.getD w ByteArray.empty) x = true then popA l x ws (nodeT w a b :: ts) else (w :: ws, b :: a :: ts)
  | ws, ts => (ws, ts)
def runA (l : List ByteArray) : Nat → List Nat × List S27
  | 0 => ([], [leafT 0])
  | i + 1 => (i :: (popA l (l.getD i ByteArray.empty) (runA l i).1 (runA l i).2).1, leafT (i + 1) :: (popA l (l.getD i ByteArray.empty) (runA l i).1 (runA l i).2).2)
def finA : List Nat → List S27 → List S27
  | w :: ws, b :: a :: ts => finA ws (nodeT w a b :: ts)
  | _, ts => ts
def grpB (l : List ByteArray) : S27 := (finA (runA l l.length).1 (runA l l.length).2).headD z27
theorem popA_len (l : List ByteArray) (x : ByteArray) : ∀ (ws : List Nat) (ts : List S27), ts.length = ws.length + 1 → (popA l x ws ts).2.length = (popA l x ws ts).1.length + 1 ∧ (popA l x ws ts).1.length ≤ ws.length
  | [], ts, h => by simp only [popA]; exact ⟨h, Nat.le_refl _⟩
  | w :: ws, [], h => by simp at h
  | w :: ws, [b], h => by simp at h
  | w :: ws, b :: a :: ts, h => by
    simp only [popA]
    split
    · have := popA_len l x ws (nodeT w a b :: ts) (by simp at h ⊢; omega)
      exact ⟨this.1, by have := this.2; simp; omega⟩
    · exact ⟨h, Nat.le_refl _⟩
theorem popA_mem (l : List ByteArray) (x : ByteArray) : ∀ (ws : List Nat) (ts : List S27) (i : Nat), i ∈ (popA l x ws ts).1 → i ∈ ws
  | [], ts, i => by simp only [popA]; exact id
  | w :: ws, [], i => by simp only [popA]; exact id
  | w :: ws, [b], i => by simp only [popA]; exact id
  | w :: ws, b :: a :: ts, i => by
    simp only [popA]
    split
    · intro h
      exact List.mem_cons_of_mem _ (popA_mem l x ws _ i h)
    · exact id
theorem runA_len (l : List ByteArray) : ∀ i, (runA l i).2.length = (runA l i).1.length + 1 ∧ (runA l i).1.length ≤ i ∧ ∀ w ∈ (runA l i).1, w < i
  | 0 => ⟨rfl, Nat.le_refl _, fun w h => by simp [runA] at h⟩
  | i + 1 => by
    have ih := runA_len l i
    have hp := popA_len l (l.getD i ByteArray.empty) _ _ ih.1
    refine ⟨by simp only [runA, List.length_cons]; omega, by simp only [runA, List.length_cons]; omega, fun w h => ?_⟩
    simp only [runA, List.mem_cons] at h
    rcases h with rfl | h
    · omega
    · have := ih.2.2 w (popA_mem _ _ _ _ _ h); omega
theorem GS_below {w0 W W' : World} {g r2 : Nat} {sv : Value} {ws : List Nat} {ts : List S27} (h : GS w0 W g r2 sv ws ts) (hb : Below W.heap.size W W') : GS w0 W' g r2 sv ws ts := by
  obtain ⟨vT, vW, cells, h⟩ := h
  exact ⟨vT, vW, cells, blk_below h.hg hb, blk_below h.hr hb, h.g0, h.r0, own_move h.hT (fun k hk => hb.block k (own_lt h.hT k hk)), own_move h.hW (fun k hk => hb.block k (own_lt h.hW k hk)), h.nT, fun j x hj => Kd.FK_below (h.el j x hj) hb, below_step h.bel hb⟩
/-- is the topmost sign that waits applied ahead of x? -/
def topB (l : List ByteArray) (x : ByteArray) : List Nat → Bool
  | [] => false
  | q :: _ => strB (l.getD q ByteArray.empty) x
theorem GS_stronger {w0 W : World} {g r2 c0 : Nat} {ad : Addr} {l : List ByteArray} {ws : List Nat} {ts : List S27} {x : ByteArray} (h : GS w0 W g r2 (.slice (some ad) l.length c0) ws ts)
    (hr : Kd.C Kd.string w0 (some ad) l.length l) (hws : ∀ q ∈ ws, q < l.length) (hl : ws.length ≤ 1000) (hx : x.size ≤ 9223372036854775807) (hsz : ∀ s ∈ l, s.size ≤ 9223372036854775807) :
    Calls Try.prog 50 #[.pointer (some ⟨g, 0, none⟩), .string x] W fun e w' => e = .returned (.bool (topB l x ws)) ∧ Below W.heap.size W w' := by
  obtain ⟨vT, vW, cells, h⟩ := h
  cases ws with
  | nil =>
    have hv : ∃ ao capw, vW = .slice ao 0 capw := by
      rcases h.hW.2 with ⟨e, _⟩ | ⟨b, cap, cur, e, _⟩
      · exact ⟨_, _, e⟩
      · exact ⟨_, _, e⟩
    obtain ⟨ao, capw, rfl⟩ := hv
    refine (stronger_none g _ vT ao capw x W h.hg).mono ?_
    rintro e w' ⟨rfl, rfl⟩
    exact ⟨rfl, Below.refl _ _⟩
  | cons q ws =>
    obtain ⟨wb, capw, hvW, hwb0, hcapw, hcwl, _, hcellw⟩ := own_form h.hW (by simp)
    simp only [List.length_cons] at hvW hl
    have hq : q < l.length := hws q (List.mem_cons_self)
    obtain ⟨ad', e, hy0⟩ := Kd.at_string hr (q : Int) (by omega) (by omega)
    injection e with e
    subst e
    have hy : W.cell? (ad.add q) = some (.string (l.getD q ByteArray.empty)) := by
      have := (h.bel.cell (World.block_lt_of_cell? w0 _ hy0)).trans hy0
      simpa [rdOf] using this
    have hw : W.cell? ⟨wb, ws.length, none⟩ = some (.int .i64 (q : Int)) := hcellw _ _ (by simp)
    exact stronger_some g wb ws.length capw q l.length c0 ad vT x _ W (by rw [h.hg, hvW]) (by omega) hw hq hy hx (hsz _ (by simp [hq]))
theorem popA_top {l : List ByteArray} {x : ByteArray} {ws : List Nat} {ts : List S27} (h : topB l x ws = false) : popA l x ws ts = (ws, ts) := by
  cases ws with
  | nil => cases ts <;> rfl
  | cons q ws =>
    match ts with
    | [] => rfl
    | [b] => rfl
    | b :: a :: ts =>
      simp only [popA]
      rw [if_neg (by simpa [topB] using h)]
/-- what Group answers -/
def grpOut (l : List ByteArray) : Int × Int × List S27 × Bool :=
  if ∃ j, j < l.length ∧ (lv (l.getD j ByteArray.empty)).1 = 0 then (0, 0, [], false) else ((grpB l).f0, (grpB l).f1, (grpB l).f2, true)
theorem jump_mono {l : Nat} {J J' : Act → World → Prop} {Q : Exit → Act → World → Prop} (h : ∀ a w, J a w → J' a w) : ∀ e a w, Exit.jump l J Q e a w → Exit.jump l J' Q e a w := fun e a w hq => by
  cases e <;> first | exact hq | exact ⟨hq.1, h _ _ hq.2⟩
theorem wp_scope_head {P : Program} {a : Act} {w : World} {Q : Exit → Act → World → Prop} {x : Code} (l : Nat) (J : Act → World → Prop) (μ : Act → World → Nat) (hJ : J a w)
    (pass : ∀ a w, J a w → x.wp P (Exit.jump l (fun a' w' => J a' w' ∧ μ a' w' < μ a w) Q) a w) : (Code.scope ((Code.label l).seq x)).wp P Q a w :=
  wp_scope_jumps l J μ (by simp [findLabel]) (wp_seq (wp_label (Code.wp_mono (jump_mono fun _ _ h => h.1) (pass a w hJ)))) (fun a w h => wp_seq (wp_skip (pass a w h)))
/-- how many signs wait -/
def waitLen (g : Nat) (w : World) : Nat := match w.cell? ⟨g, 2, none⟩ with
  | some (.slice _ n _) => n
  | _ => 0
theorem GS_wait {w0 W : World} {g r2 : Nat} {sv : Value} {ws : List Nat} {ts : List S27} (h : GS w0 W g r2 sv ws ts) : waitLen g W = ws.length := by
  obtain ⟨vT, vW, cells, h⟩ := h
  have hc : W.cell? ⟨g, 2, none⟩ = some vW := (blk_cell h.hg 2).trans rfl
  unfold waitLen
  rw [hc]
  rcases h.hW.2 with ⟨e, h0⟩ | ⟨b, cap, cur, e, _⟩
  · rw [e]; exact h0.symm
  · rw [e]

section
open Go.Proofs.YtjnhdoaceegkoaaW.PrintLast
variable {P : Program} {ops : Array Oper} {Q : Exit → Act → World → Prop} {md : Region.Mode} {S : World → Prop} {ds : List Nat}
theorem twoLL_ {i j : Nat} {Ni Nj : Option Tmp} {oi oj : Oper} {fuel : Nat} {l : Array Bool} {a : Act} {w : World} (li lj : Array Bool) (hi : ops[i]? = some oi) (hj : ops[j]? = some oj) (hNi : oi.dst = Ni) (hNj : oj.dst = Nj)
    (hc : (Region.ready md ops l == [i, j] && l.setIfInBounds i true == li && l.setIfInBounds j true == lj) = true) (hdi : i ∈ ds) (hdj : j ∈ ds)
    (h1 : ∀ K : Act → World → Prop, Shut (∀ a' w', wpAnyLast P md ops Q S ds fuel li a' w' → K a' w') → if Region.wanted oi (yielded ops a.tmps) = true then Oper.wp P oi a w K Q else K (a.put Ni undef) w)
    (h2 : ∀ K : Act → World → Prop, Shut (∀ a' w', wpAnyLast P md ops Q S ds fuel lj a' w' → K a' w') → if Region.wanted oj (yielded ops a.tmps) = true then Oper.wp P oj a w K Q else K (a.put Nj undef) w) :
    wpAnyLast P md ops Q S ds (fuel + 1) l a w := by
  subst hNi
  subst hNj
  simp only [Bool.and_eq_true, beq_iff_eq] at hc
  obtain ⟨⟨h3, h4⟩, h5⟩ := hc
  subst h4
  subst h5
  exact wpAnyLast_ready h3 (by simp) (AllReadyL.cons_last hi hdi (fun K hK => h1 K hK) (AllReadyL.cons_last hj hdj (fun K hK => h2 K hK) AllReadyL.nil))
end

theorem store_A {w0 w6 : World} {g gg n cap : Nat} {sv vT vW v x y z x' y' z' : Value} {cells : List Value} (hown : w6.ownsRow w0.heap.size 27 3 (.slice (some ⟨gg, 0, none⟩) (n + 1) cap) (n + 1) (cells ++ [x, y, z])) (hl : cells.length = n * 3)
    (hg6 : w6.heap[g]? = some (.cells #[sv, vT, vW] 82 (0, 0))) (hne : gg ≠ g) (hgb : w0.heap.size ≤ g) (hbel : Below w0.heap.size w0 w6) :
    ((((w6.setCell ⟨gg, n * 3, none⟩ x').setCell ⟨gg, n * 3 + 1, none⟩ y').setCell ⟨gg, n * 3 + 2, none⟩ z').setCell ⟨g, 1, none⟩ v).heap[g]? = some (.cells #[sv, v, vW] 82 (0, 0)) ∧
    ((((w6.setCell ⟨gg, n * 3, none⟩ x').setCell ⟨gg, n * 3 + 1, none⟩ y').setCell ⟨gg, n * 3 + 2, none⟩ z').setCell ⟨g, 1, none⟩ v).ownsRow w0.heap.size 27 3 (.slice (some ⟨gg, 0, none⟩) (n + 1) cap) (n + 1) (cells ++ [x', y', z']) ∧
    (∀ k, k ≠ g → k ≠ gg → ((((w6.setCell ⟨gg, n * 3, none⟩ x').setCell ⟨gg, n * 3 + 1, none⟩ y').setCell ⟨gg, n * 3 + 2, none⟩ z').setCell ⟨g, 1, none⟩ v).heap[k]? = w6.heap[k]?) ∧
    Below w0.heap.size w0 ((((w6.setCell ⟨gg, n * 3, none⟩ x').setCell ⟨gg, n * 3 + 1, none⟩ y').setCell ⟨gg, n * 3 + 2, none⟩ z').setCell ⟨g, 1, none⟩ v) := by
  have hggb : w0.heap.size ≤ gg := own_base hown gg rfl
  refine ⟨blk_set (blk_far (blk_far (blk_far hg6 (Ne.symm hne) x') (Ne.symm hne) y') (Ne.symm hne) z') 1 v, ?_, fun k h1 h2 => ?_, below_set (below_set (below_set (below_set hbel hggb) hggb) hggb) hgb⟩
  · exact own_move (own_set3 hown hl) (fun k hk => by
      have hk' : gg = k := by simpa [Value.ownBlock] using hk
      subst hk'
      exact Below.heap_setCell _ _ _ _ hne)
  · rw [Below.heap_setCell _ _ _ _ (show k ≠ g from h1), Below.heap_setCell _ _ _ _ (show k ≠ gg from h2), Below.heap_setCell _ _ _ _ (show k ≠ gg from h2), Below.heap_setCell _ _ _ _ (show k ≠ gg from h2)]
theorem store_B {w0 w6 : World} {g gg n cap : Nat} {sv vT vW v x y z x' y' z' : Value} {cells : List Value} (hown : w6.ownsRow w0.heap.size 27 3 (.slice (some ⟨gg, 0, none⟩) (n + 1) cap) (n + 1) (cells ++ [x, y, z])) (hl : cells.length = n * 3)
    (hg6 : w6.heap[g]? = some (.cells #[sv, vT, vW] 82 (0, 0))) (hne : gg ≠ g) (hgb : w0.heap.size ≤ g) (hbel : Below w0.heap.size w0 w6) :
    ((((w6.setCell ⟨g, 1, none⟩ v).setCell ⟨gg, n * 3, none⟩ x').setCell ⟨gg, n * 3 + 1, none⟩ y').setCell ⟨gg, n * 3 + 2, none⟩ z').heap[g]? = some (.cells #[sv, v, vW] 82 (0, 0)) ∧
    ((((w6.setCell ⟨g, 1, none⟩ v).setCell ⟨gg, n * 3, none⟩ x').setCell ⟨gg, n * 3 + 1, none⟩ y').setCell ⟨gg, n * 3 + 2, none⟩ z').ownsRow w0.heap.size 27 3 (.slice (some ⟨gg, 0, none⟩) (n + 1) cap) (n + 1) (cells ++ [x', y', z']) ∧
    (∀ k, k ≠ g → k ≠ gg → ((((w6.setCell ⟨g, 1, none⟩ v).setCell ⟨gg, n * 3, none⟩ x').setCell ⟨gg, n * 3 + 1, none⟩ y').setCell ⟨gg, n * 3 + 2, none⟩ z').heap[k]? = w6.heap[k]?) ∧
    Below w0.heap.size w0 ((((w6.setCell ⟨g, 1, none⟩ v).setCell ⟨gg, n * 3, none⟩ x').setCell ⟨gg, n * 3 + 1, none⟩ y').setCell ⟨gg, n * 3 + 2, none⟩ z') := by
  have hggb : w0.heap.size ≤ gg := own_base hown gg rfl
  refine ⟨blk_far (blk_far (blk_far (blk_set hg6 1 v) (Ne.symm hne) x') (Ne.symm hne) y') (Ne.symm hne) z', ?_, fun k h1 h2 => ?_, below_set (below_set (below_set (below_set hbel hgb) hggb) hggb) hggb⟩
  · refine own_set3 (x := x) (y := y) (z := z) (own_move hown (fun k hk => ?_)) hl
    have hk' : gg = k := by simpa [Value.ownBlock] using hk
    subst hk'
    exact Below.heap_setCell _ _ _ _ hne
  · rw [Below.heap_setCell _ _ _ _ (show k ≠ gg from h2), Below.heap_setCell _ _ _ _ (show k ≠ gg from h2), Below.heap_setCell _ _ _ _ (show k ≠ gg from h2), Below.heap_setCell _ _ _ _ (show k ≠ g from h1)]

theorem GS_next {w0 W X w1 Y : World} {g r2 gg cap i : Nat} {sv vT vW : Value} {l : List ByteArray} {ws : List Nat} {ts : List S27} {cells : List Value} (h : GI w0 W g r2 sv (i :: ws) ts vT vW cells) (hb : Below W.heap.size W X)
    (hp : popA l (l.getD i ByteArray.empty) ws ts = popA l (l.getD i ByteArray.empty) (runA l i).1 (runA l i).2) (ht : topB l (l.getD i ByteArray.empty) ws = false)
    (hgr : X.grownBy w1 vT.ownBlock) (hat : vT.ownBlock = some gg ∨ gg = X.heap.size)
    (hY : Y.heap[g]? = some (.cells #[sv, .slice (some ⟨gg, 0, none⟩) (ts.length + 1) cap, vW] 82 (0, 0)))
    (hown : Y.ownsRow w0.heap.size 27 3 (.slice (some ⟨gg, 0, none⟩) (ts.length + 1) cap) (ts.length + 1) (cells ++ [.int .i64 (-1), .int .i64 ((i + 1 : Nat) : Int), .slice none 0 0]))
    (hset : ∀ k, k ≠ g → k ≠ gg → Y.heap[k]? = w1.heap[k]?) (hbel : Below w0.heap.size w0 Y) :
    GS w0 Y g r2 sv (runA l (i + 1)).1 (runA l (i + 1)).2 := by
  have h2 := GI_pushT h hb hgr hat hY hown hset hbel (t := leafT (i + 1)) (fun ok => k27_mkF _ _ (leafT (i + 1)) (Nat.le_refl _) (Kd.F_nil _ _ _))
  rw [popA_top ht] at hp
  simp only [runA]
  rw [← hp]
  exact ⟨_, _, _, h2⟩
def GPost (w : World) (r : Int × Int × List S27 × Bool) (e : Ending) (w' : World) : Prop :=
  ∃ v2 : Value, e = .returned (.tuple #[.agg #[.int .i64 r.1, .int .i64 r.2.1, v2], .bool r.2.2.2]) ∧ Kd.V k27 27 w' w.heap.size (fun k_ => (w.heap.size ≤ k_)) v2 r.2.2.1 ∧ Below w.heap.size w w'
theorem GS_start {w W : World} {sv : Value} (hb : Below w.heap.size w W) (hr : W.heap[w.heap.size]? = some (.cells #[.int .i64 0, .int .i64 0, .slice none 0 0] 27 (0, 0))) (l : List ByteArray) :
    GS w ((W.alloc (.cells #[.int .i64 (-1), .int .i64 0, .slice none 0 0] 27)).alloc (.cells #[sv, .slice (some ⟨W.heap.size, 0, none⟩) 1 1, .slice none 0 0] 82)) (W.heap.size + 1) w.heap.size sv (runA l 0).1 (runA l 0).2 := by
  have hr2 := blk_lt hr
  have hbs := hb.size
  refine ⟨.slice (some ⟨W.heap.size, 0, none⟩) 1 1, .slice none 0 0, [.int .i64 (-1), .int .i64 0, .slice none 0 0], heap_alloc2_new _ _ _, blk_alloc (blk_alloc hr _) _, by omega, Nat.le_refl _, ?_, own_nil _ _ _ _, ?_, ?_, below_alloc (below_alloc hb _) _⟩
  · exact ⟨rfl, .inr ⟨W.heap.size, 1, #[.int .i64 (-1), .int .i64 0, .slice none 0 0], rfl, by omega, heap_alloc2_old _ _ _, Nat.le_refl _, by unfold maxLen; decide, rfl, rfl⟩⟩
  · simp only [Value.ownBlock]
    intro e
    injection e with e
    omega
  · intro j x hj
    match j, hj with
    | 0, hj =>
      obtain rfl : leafT 0 = x := by simpa [runA] using hj
      exact k27_mkF _ _ (leafT 0) (Nat.le_refl _) (Kd.F_nil _ _ _)
    | j + 1, hj => simp [runA] at hj
theorem kt_int : (Try.prog.info? 3).map (fun i => (i.zero, i.size, i.bytes)) = some (some (.int .i64 0), 1, 8) := by kernel_rfl
def ggroup.T15 : Bool × List (List Nat × List Nat) := (true, [([], []), ([0], [0]), ([1], [1]), ([2], [2]), ([], []), ([4], [4]), ([5], [5]), ([3], [3]), ([], []), ([3, 8, 0, 1, 2, 3, 4, 5, 6, 7, 8], [3, 8]), ([9, 7, 0, 1, 2, 3, 4, 5, 6, 7, 8, 9], [7, 9]), ([10, 6, 9, 0, 1, 2, 3, 4, 5, 6, 7, 8, 9], [6, 10]), ([0, 0, 1, 2, 3, 4, 5, 6, 7, 8, 9], [0]), ([12, 0, 1, 2, 3, 4, 5, 6, 7, 8, 9], [12]), ([13, 9, 9, 0, 1, 2, 3, 4, 5, 6, 7, 8, 9], [9, 13])])
def ggroup.B15 : List Nat := [0, 1, 3, 7, 0, 16, 48, 15, 0, 511, 1023, 2047, 1023, 5119, 13311]
theorem ggroup.tab15 : rtab .any (opsOf Try.f13 15) = ggroup.T15 := by kernel_rfl
theorem ggroup.bits15 : waitsOk ggroup.T15.2 ggroup.B15 = true := by kernel_rfl
set_option linter.unusedSimpArgs false in
set_option maxHeartbeats 4000000 in
set_option maxRecDepth 100000 in
theorem Group_any (A0 : Option Addr) (c0 : Nat) (l : List ByteArray) (w : World) (hr0 : Kd.C Kd.string w A0 l.length l) (hc0 : l.length ≤ c0) (hn : l.length ≤ 900)
    (hsz : ∀ s ∈ l, s.size ≤ 9223372036854775807) :
    Calls Try.prog 13 #[.slice A0 l.length c0] w (GPost w (grpOut l)) := by
  have HR := Lib.hid hr0
  have HS := Lib.hid hsz
  clear hr0 hsz
  go_enter Try.func13, Try.ntmps13
  go_wp2
  go_loopw [13] (fun v13 wr => ∃ k : Nat, k ≤ l.length ∧ v13 = .int .i64 k ∧ Hid ((∀ j : Nat, j < k → (lv (l.getD j ByteArray.empty)).1 ≠ 0) ∧ Below w.heap.size w wr ∧ wr.heap[w.heap.size]? = some (.cells #[.int .i64 0, .int .i64 0, .slice none 0 0] 27 (0, 0)))) (fun v13 _ => l.length - (intOf v13).toNat)
  case atStart => exact ⟨0, Nat.zero_le _, rfl, Lib.hid ⟨fun j h => by omega, below_alloc (Below.refl _ _) _, heap_alloc_new _ _⟩⟩
  case round =>
    obtain ⟨k, hk, rfl, HI⟩ := hrel
    by_cases hlt : k < l.length
    · obtain ⟨ad, e, hx0⟩ := Kd.at_string HR.out (k : Int) (by omega) (by omega)
      cases e
      have hx : wr.cell? (ad.add k) = some (.string (l.getD k ByteArray.empty)) := by
        have := (HI.out.2.1.cell (World.block_lt_of_cell? w _ hx0)).trans hx0
        simpa [rdOf] using this
      have hmem : l.getD k ByteArray.empty ∈ l := by simp [hlt]
      obtain ⟨x, rx⟩ : ∃ x, x = l.getD k ByteArray.empty := ⟨_, rfl⟩
      have LX := Lib.hid (level_some x (HS.out x (by rw [rx]; exact hmem)))
      rw [← rx] at hx
      have RX := Lib.hid rx
      clear rx hmem hx0
      obtain ⟨p, rp⟩ : ∃ p, p = lv x := ⟨_, rfl⟩
      have RP := Lib.hid rp
      clear rp
      by_cases hz : p.1 = 0
      · have hzb : (p.1 == 0) = true := by simpa using hz
        have HZ := Lib.hid hz
        clear hz
        go_wp2_with (go_at_call 49; refine (name_Level.calls 10 x p.1 p.2 _ (by rw [LX.out, RP.out])).mono ?_; rintro e w1 ⟨rfl, hb1⟩; have hr1 := blk_below HI.out.2.2 hb1; have c0_ : w1.cell? ⟨w.heap.size, 0, none⟩ = some (.int .i64 0) := (blk_cell hr1 0).trans rfl; have c1_ : w1.cell? ⟨w.heap.size, 1, none⟩ = some (.int .i64 0) := (blk_cell hr1 1).trans rfl; have c2_ : w1.cell? ⟨w.heap.size, 2, none⟩ = some (.slice none 0 0) := (blk_cell hr1 2).trans rfl; have f0_ := blk_frozen hr1 0; have f1_ := blk_frozen hr1 1; have f2_ := blk_frozen hr1 2; have HB1 := Lib.hid hb1; have HR1 := Lib.hid hr1; clear hb1 hr1)
        have hfin : GPost w (grpOut l) (.returned (.tuple #[.agg #[.int .i64 0, .int .i64 0, .slice none 0 0], .bool false])) (((w1.setCell ⟨w.heap.size, 0, none⟩ (.int .i64 0)).setCell ⟨w.heap.size, 1, none⟩ (.int .i64 0)).setCell ⟨w.heap.size, 2, none⟩ (.slice none 0 0)) := by
          have hg : grpOut l = (0, 0, [], false) := by
            unfold grpOut
            rw [if_pos ⟨k, by assumption, by rw [← RX.out, ← RP.out]; exact HZ.out⟩]
          rw [hg]
          exact ⟨_, rfl, Kd.V_nil _ _ _ _ _, below_set (below_set (below_set (below_step HI.out.2.1 HB1.out) (Nat.le_refl _)) (Nat.le_refl _)) (Nat.le_refl _)⟩
        have hrf : (((w1.setCell ⟨w.heap.size, 0, none⟩ (.int .i64 0)).setCell ⟨w.heap.size, 1, none⟩ (.int .i64 0)).setCell ⟨w.heap.size, 2, none⟩ (.slice none 0 0)).heap[w.heap.size]? = some (.cells #[.int .i64 0, .int .i64 0, .slice none 0 0] 27 (0, 0)) := blk_set (blk_set (blk_set HR1.out 0 _) 1 _) 2 _
        generalize (((w1.setCell ⟨w.heap.size, 0, none⟩ (.int .i64 0)).setCell ⟨w.heap.size, 1, none⟩ (.int .i64 0)).setCell ⟨w.heap.size, 2, none⟩ (.slice none 0 0)) = WF at hfin hrf ⊢
        have z0 : WF.cell? ⟨w.heap.size, 0, none⟩ = some (.int .i64 0) := (blk_cell hrf 0).trans rfl
        have z1 : WF.cell? ⟨w.heap.size, 1, none⟩ = some (.int .i64 0) := (blk_cell hrf 1).trans rfl
        have z2 : WF.cell? ⟨w.heap.size, 2, none⟩ = some (.slice none 0 0) := (blk_cell hrf 2).trans rfl
        refine bodyPost_ret (v := .tuple #[.agg #[.int .i64 0, .int .i64 0, .slice none 0 0], .bool false]) ?_ rfl hfin
        simp [results, Try.results13, go_sem, z0, z1, z2]
      · have hzb : (p.1 == 0) = false := by simpa using hz
        have HZ := Lib.hid hz
        clear hz
        go_wp2_with (go_at_call 49; refine (name_Level.calls 10 x p.1 p.2 _ (by rw [LX.out, RP.out])).mono ?_; rintro e w1 ⟨rfl, hb1⟩; have HB1 := Lib.hid hb1; clear hb1)
        go_roundw
        case rel =>
          refine ⟨k + 1, by omega, by go_num, Lib.hid ⟨fun j hj => ?_, below_step HI.out.2.1 HB1.out, blk_below HI.out.2.2 HB1.out⟩⟩
          by_cases e : j = k
          · subst e; rw [← RX.out, ← RP.out]; exact HZ.out
          · exact HI.out.1 j (by omega)
        case measure => simp [intOf]; omega
    · have hkl : k = l.length := by omega
      have HKL := Lib.hid hkl
      clear hkl
      go_wp2
      have hgs := GS_start (sv := .slice A0 l.length c0) HI.out.2.1 HI.out.2.2 l
      obtain ⟨W0, hW0⟩ : ∃ W0, W0 = (wr.alloc (.cells #[.int .i64 (-1), .int .i64 0, .slice none 0 0] 27)).alloc (.cells #[.slice A0 l.length c0, .slice (some ⟨wr.heap.size, 0, none⟩) 1 1, .slice none 0 0] 82) := ⟨_, rfl⟩
      obtain ⟨g, hg⟩ : ∃ g, g = wr.heap.size + 1 := ⟨_, rfl⟩
      rw [← hW0, ← hg] at hgs ⊢
      have HGS := Lib.hid hgs
      clear hgs hg hW0
      obtain ⟨wo, rfl⟩ : ∃ wo : World, wo = wr := ⟨_, rfl⟩
      go_loopw [33] (fun v33 wq => ∃ i : Nat, i ≤ l.length ∧ v33 = .int .i64 i ∧ Hid (GS w wq g w.heap.size (.slice A0 l.length c0) (runA l i).1 (runA l i).2)) (fun v33 _ => l.length - (intOf v33).toNat)
      case atStart => exact ⟨0, Nat.zero_le _, rfl, HGS⟩
      case round =>
        clear HGS
        obtain ⟨i, hi, rfl, HG⟩ := hrel
        by_cases hlt2 : i < l.length
        · obtain ⟨ad, e, hx0⟩ := Kd.at_string HR.out (i : Int) (by omega) (by omega)
          cases e
          obtain ⟨vT0, vW0, cells0, hgi0⟩ := HG.out
          have hx : wr.cell? (ad.add i) = some (.string (l.getD i ByteArray.empty)) := by
            have := (hgi0.bel.cell (World.block_lt_of_cell? w _ hx0)).trans hx0
            simpa [rdOf] using this
          obtain ⟨x, rx⟩ : ∃ x, x = l.getD i ByteArray.empty := ⟨_, rfl⟩
          have hmem : l.getD i ByteArray.empty ∈ l := by simp [hlt2]
          have hxs : x.size ≤ 9223372036854775807 := HS.out x (by rw [rx]; exact hmem)
          rw [← rx] at hx
          have RX := Lib.hid rx
          have HXS := Lib.hid hxs
          clear rx hmem hx0 hgi0 hxs
          go_wp2_with fail
          refine wp_scope_head 0 (fun a' w' => (∃ y34 y35 y36 y37 y38 y39 y40 y41 y42 y43 y44 y45 y46 y47 y48 y49 y50 y51 y52 y53 y54 y55 y56 y57 y58 y59 y60 y61 y62 y63 y64 y65 y66 : Value, a' = { tmps := #[.slice (some ad) l.length c0, undef, .pointer (some ⟨w.heap.size, 0, none⟩), u3, undef, u5, u6, u7, .pointer (some ⟨g, 0, none⟩), .int .i64 (i : Int), .string x, .slice (some ad) l.length c0, .int .i64 (l.length : Int), .int .i64 (k : Int), .bool false, u15, u16, u17, u18, u19, u20, u21, u22, u23, u24, u25, .slice (some ad) l.length c0, .agg #[.int .i64 (-1), .int .i64 0, .slice none 0 0], .slice (some ⟨wo.heap.size, 0, none⟩) 1 1, .agg #[.slice (some ad) l.length c0, .slice (some ⟨wo.heap.size, 0, none⟩) 1 1, .slice none 0 0], .pointer (some ⟨g, 0, none⟩), .slice (some ad) l.length c0, .int .i64 (l.length : Int), .int .i64 (i : Int), y34, y35, y36, y37, y38, y39, y40, y41, y42, y43, y44, y45, y46, y47, y48, y49, y50, y51, y52, y53, y54, y55, y56, y57, y58, y59, y60, y61, y62, y63, y64, y65, y66, undef, undef, undef, undef, undef, undef, undef, undef, undef, undef, undef, undef, undef, undef], defers := [] }) ∧ ∃ (ws : List Nat) (ts : List S27), Hid (GS w w' g w.heap.size (.slice (some ad) l.length c0) ws ts ∧ ts.length = ws.length + 1 ∧ popA l x ws ts = popA l x (runA l i).1 (runA l i).2 ∧ ws.length ≤ i ∧ ∀ q ∈ ws, q < i)) (fun _ w' => waitLen g w') ⟨⟨_, _, _, _, _, _, _, _, _, _, _, _, _, _, _, _, _, _, _, _, _, _, _, _, _, _, _, _, _, _, _, _, _, rfl⟩, _, _, Lib.hid ⟨HG.out, (runA_len l i).1, rfl, (runA_len l i).2.1, (runA_len l i).2.2⟩⟩ ?_
          clear HG
          rintro a' W1 ⟨⟨y34, y35, y36, y37, y38, y39, y40, y41, y42, y43, y44, y45, y46, y47, y48, y49, y50, y51, y52, y53, y54, y55, y56, y57, y58, y59, y60, y61, y62, y63, y64, y65, y66, rfl⟩, ws, ts, HJ⟩
          have hws : ∀ q ∈ ws, q < l.length := fun q hq => by have := HJ.out.2.2.2.2 q hq; omega
          have hwl : ws.length ≤ 1000 := by have := HJ.out.2.2.2.1; omega
          have HW := Lib.hid (And.intro hws hwl)
          clear hws hwl
          cases hb : topB l x ws
          · have HT := Lib.hid hb
            clear hb
            obtain ⟨i3, hi3, hz30, hz31, hz32⟩ := info_parts kt_int
            have p1 : ws.length + 1 ≤ 1001 := by have := HW.out.2; omega
            go_wp2_with (first | (go_at_call 50; refine (GS_stronger HJ.out.1 HR.out HW.out.1 HW.out.2 HXS.out HS.out).mono ?_; rintro e W2 ⟨rfl, hb2⟩; rw [HT.out]; obtain ⟨vT, vW, cells, hgi⟩ := GS_below HJ.out.1 hb2; have cw : W2.cell? ⟨g, 2, none⟩ = some vW := (blk_cell hgi.hg 2).trans rfl; have HGI := Lib.hid hgi; clear hgi hb2) | (at_builtin; go_must (refine wpList_append_own_at _ rfl _ _ 38 rfl w.heap.size 3 i3 (.int .i64 0) 1 8 Try.underlying38 hi3 hz30 hz31 hz32 rfl (by decide) vW ws.length (ws.reverse.map fun (i : Nat) => Value.int .i64 (i : Int)) rfl (own_alloc HGI.out.hW _) ⟨W2.heap.size, 0, none⟩ 1 1 [.int .i64 (i : Int)] rfl rfl ?c1 ?c2 ?c3 ?c4 ?c5 ?_)))
            case c1 =>
              intro j u hj
              match j, hj with
              | 0, hj => simp at hj; subst hj; simp [Addr.add]
            case c2 => intro u hu; simp at hu; subst hu; rfl
            case c3 => unfold maxLen; omega
            case c4 => omega
            case c5 => have := HGI.out.bel.size; simp; omega
            intro v' W3 hown hgr _ hat
            have hgi2 := GI_pushW HGI.out (X := W2.alloc _) (below_alloc (Below.refl _ _) _) (by rw [List.map_reverse]; exact hown) hgr (by rcases hat with e | e; exact .inl e; exact .inr (by rw [e]; simp))
            have hg3 : W3.heap[g]? = some (.cells #[.slice (some ad) l.length c0, vT, vW] 82 (0, 0)) := (hgr.block g (by have := blk_lt HGI.out.hg; simp; omega) (fun e => by
              obtain ⟨c, hc⟩ := own_typed HGI.out.hW g e.symm
              have := HGI.out.hg
              rw [hc] at this
              injection this with this
              injection this with _ this
              cases this)).trans (blk_alloc HGI.out.hg _)
            obtain ⟨g', cap', rfl, _, _, _, _, _⟩ := own_form hown (by omega)
            have cw3 : W3.cell? ⟨g, 2, none⟩ = some vW := (blk_cell hg3 2).trans rfl
            have fw3 : W3.frozen? ⟨g, 2, none⟩ = false := blk_frozen hg3 2
            have HGI2 := Lib.hid hgi2
            clear hgi2 hown hgr hat hg3 HGI cw
            go_wp2

            have HGI3 : Hid (GI w (W3.setCell ⟨g, 2, none⟩ (.slice (some ⟨g', 0, none⟩) (ws.length + 1) cap')) g w.heap.size (.slice (some ad) l.length c0) (i :: ws) ts vT (.slice (some ⟨g', 0, none⟩) (ws.length + 1) cap') cells) := HGI2
            generalize (W3.setCell ⟨g, 2, none⟩ (Value.slice (some ⟨g', 0, none⟩) (ws.length + 1) cap')) = W4 at HGI3 ⊢
            clear HGI2 cw3 fw3
            have htl : ts.length = ws.length + 1 := HJ.out.2.1
            have hwl : ws.length ≤ 900 := by have := HJ.out.2.2.2.1; omega
            obtain ⟨tb, capt, hvT, htb0, hcapt, hclt, _, _⟩ := own_form HGI3.out.hT (by omega)
            have gi3 := HGI3.out
            have HV := Lib.hid hvT
            subst hvT
            have hg4 := gi3.hg
            have k0 : 0 ≤ (ts.length : Int) := by omega
            have EW := Lib.hid (show wrap64 ((i : Int) + 1) = ((i + 1 : Nat) : Int) by unfold wrap64; omega)
            have k1 : (ts.length : Int) < (ts.length : Int) + 1 := by omega
            have HN := Lib.hid (And.intro htl (And.intro hwl hclt))
            clear htl hwl gi3 htb0 hcapt hclt
            refine start_ (n := 15) (S := fun w' => w'.cell? ⟨g, 1, none⟩ = some (.slice (some ⟨tb, 0, none⟩) ts.length capt)) (ds := [11, 14]) #[false, false, false, false, false, false, false, false, false, false, false, false, false, false, false] (by kernel_rfl) rfl rfl ((blk_cell hg4 1).trans rfl) (fun hHeld => ?_)
            refine with_tabW ggroup.tab15 ggroup.bits15 (fun HT_ HW_ => ?_)
            refine pure_ (i := 0) (N := some 53) (v := ?_) (a' := ?_) #[true, false, false, false, false, false, false, false, false, false, false, false, false, false, false] rfl rfl (any_of HT_.out (by kernel_rfl)) (fun _ _ _ h => h) (Or.inl ⟨by rfl, ?_⟩) ?_ ?_
            rotate_left
            · intro w'
              go_simp
              with_reducible rfl
            rotate_left
            · simp only [Act.put, List.setIfInBounds_toArray, List.set_cons_zero, List.set_cons_succ, i64_w, i32_w]
              rfl
            refine pure_ (i := 1) (N := some 54) (v := ?_) (a' := ?_) #[true, true, false, false, false, false, false, false, false, false, false, false, false, false, false] rfl rfl (any_of HT_.out (by kernel_rfl)) (fun _ _ _ h => h) (Or.inl ⟨by rfl, ?_⟩) ?_ ?_
            rotate_left
            · intro w'
              go_simp
              with_reducible rfl
            rotate_left
            · simp only [Act.put, List.setIfInBounds_toArray, List.set_cons_zero, List.set_cons_succ, i64_w, i32_w]
              rfl
            refine pure_ (i := 2) (N := some 55) (v := ?_) (a' := ?_) #[true, true, true, false, false, false, false, false, false, false, false, false, false, false, false] rfl rfl (any_of HT_.out (by kernel_rfl)) (fun _ _ _ h => h) (Or.inl ⟨by rfl, ?_⟩) ?_ ?_
            rotate_left
            · intro w'
              go_simp
              with_reducible rfl
            rotate_left
            · simp only [Act.put, List.setIfInBounds_toArray, List.set_cons_zero, List.set_cons_succ, i64_w, i32_w]
              rfl
            refine take_ (i := 3) (N := some 56) (v := ?_) (a' := ?_) #[true, true, true, true, false, false, false, false, false, false, false, false, false, false, false] rfl rfl (take_ofW HT_.out HW_.out (by kernel_rfl)) (fun _ _ _ h => h) (Or.inl ⟨by rfl, ?_⟩) hHeld ?_ ?_
            rotate_left
            · rintro w' s0
              go_simp
              with_reducible rfl
            rotate_left
            · simp only [Act.put, List.setIfInBounds_toArray, List.set_cons_zero, List.set_cons_succ, i64_w, i32_w]
              rfl
            refine pure_ (i := 4) (N := some 57) (v := ?_) (a' := ?_) #[true, true, true, true, true, false, false, false, false, false, false, false, false, false, false] rfl rfl (any_of HT_.out (by kernel_rfl)) (fun _ _ _ h => h) (Or.inl ⟨by rfl, ?_⟩) ?_ ?_
            rotate_left
            · intro w'
              go_simp
              with_reducible rfl
            rotate_left
            · simp only [Act.put, List.setIfInBounds_toArray, List.set_cons_zero, List.set_cons_succ, i64_w, i32_w]
              rfl
            refine pure_ (i := 5) (N := some 58) (v := ?_) (a' := ?_) #[true, true, true, true, true, true, false, false, false, false, false, false, false, false, false] rfl rfl (any_of HT_.out (by kernel_rfl)) (fun _ _ _ h => h) (Or.inl ⟨by rfl, ?_⟩) ?_ ?_
            rotate_left
            · intro w'
              go_simp
              with_reducible rfl
            rotate_left
            · simp only [Act.put, List.setIfInBounds_toArray, List.set_cons_zero, List.set_cons_succ, i64_w, i32_w]
              rfl
            refine pure_ (i := 6) (N := some 59) (v := ?_) (a' := ?_) #[true, true, true, true, true, true, true, false, false, false, false, false, false, false, false] rfl rfl (any_of HT_.out (by kernel_rfl)) (fun _ _ _ h => h) (Or.inl ⟨by rfl, ?_⟩) ?_ ?_
            rotate_left
            · intro w'
              go_simp
              with_reducible rfl
            rotate_left
            · simp only [Act.put, List.setIfInBounds_toArray, List.set_cons_zero, List.set_cons_succ, i64_w, i32_w]
              rfl
            refine pure_ (i := 7) (N := some 60) (v := ?_) (a' := ?_) #[true, true, true, true, true, true, true, true, false, false, false, false, false, false, false] rfl rfl (any_of HT_.out (by kernel_rfl)) (fun _ _ _ h => h) (Or.inl ⟨by rfl, ?_⟩) ?_ ?_
            rotate_left
            · intro w'
              go_simp
              with_reducible rfl
            rotate_left
            · simp only [Act.put, List.setIfInBounds_toArray, List.set_cons_zero, List.set_cons_succ, i64_w, i32_w]
              rfl
            -- @MEM ready [8]: 8 Op.buildSlice N := some 61 then #[true, true, true, true, true, true, true, true, true, false, false, false, false, false, false]
            refine one_ (i := 8) (N := some 61) #[true, true, true, true, true, true, true, true, true, false, false, false, false, false, false] rfl rfl (one_of HT_.out (by kernel_rfl)) (by decide) (fun K hK => ?_)

            refine value_ (w1 := ?_) (v := ?_) (by rfl) rfl ?_ ?_
            rotate_left 2
            · go_simp
              constructor
              · rfl
              · rfl
            have BX : Below W4.heap.size W4 (W4.alloc (.cells #[.int .i64 0, .int .i64 0, .slice none 0 0] 27)).drew := below_drew (below_alloc (Below.refl _ _) _)
            refine hK.out _ _ (pw_cell_below BX ((blk_cell hg4 1).trans rfl)) (fun hHeld => ?_)
            clear hK K
            refine norm_ (a' := ?_) ?_ ?_
            rotate_left
            · show Act.put _ (some 61) _ = _
              simp only [Act.put, List.setIfInBounds_toArray, List.set_cons_zero, List.set_cons_succ, i64_w, i32_w]
              rfl
            -- @MEM ready [9]: 9 Op.call N := some 62 then #[true, true, true, true, true, true, true, true, true, true, false, false, false, false, false]
            refine one_ (i := 9) (N := some 62) #[true, true, true, true, true, true, true, true, true, true, false, false, false, false, false] rfl rfl (one_of HT_.out (by kernel_rfl)) (by decide) (fun K hK => ?_)

            obtain ⟨i0, hi0, hz0, hz1, hz2⟩ := info_parts kt_info
            refine step_append_lies _ rfl (.tmp 56) (.tmp 61) 25 (by rfl) w.heap.size 27 i0 _ 3 40 Try.underlying25 hi0 hz0 hz1 hz2 rfl (by decide) (.slice (some ⟨tb, 0, none⟩) ts.length capt) ts.length cells (by rfl) (own_move HGI3.out.hT (fun k hk => BX.block k (own_lt HGI3.out.hT k hk))) ⟨W4.heap.size, 0, none⟩ 1 1 [.int .i64 0, .int .i64 0, .slice none 0 0] (by rfl) rfl ?aN ?aI (by omega) (by have := HN.out; unfold maxLen; omega) (by have := HN.out; omega) (by have := HGI3.out.bel.size; have := BX.size; omega) _ rfl ?_
            case aN =>
              intro j u hu
              rw [add_at, Nat.zero_add]
              have hcell := (blk_cell (w := (W4.alloc (.cells #[.int .i64 0, .int .i64 0, .slice none 0 0] 27)).drew) (g := W4.heap.size) (blk_drew (blk_new W4 _)) j)
              rw [hcell]
              simpa using hu
            case aI =>
              intro u hu
              simp at hu
              rcases hu with rfl | rfl | rfl <;> rfl
            intro gg cap w6 hown hgr hat hlt6
            have hgT : some g ≠ (Value.slice (some ⟨tb, 0, none⟩) ts.length capt).ownBlock := fun e => by
              obtain ⟨c, hc⟩ := own_typed HGI3.out.hT g e.symm
              have := hg4
              rw [hc] at this
              injection this with this
              injection this with _ this
              cases this
            have hg6 : w6.heap[g]? = some (.cells #[.slice (some ad) l.length c0, .slice (some ⟨tb, 0, none⟩) ts.length capt, .slice (some ⟨g', 0, none⟩) (ws.length + 1) cap'] 82 (0, 0)) := (hgr.block g (by have := blk_lt hg4; have := BX.size; omega) hgT).trans (blk_below hg4 BX)
            obtain ⟨gx, capx, e, _, _, _, ⟨cur, hcur, _, _⟩, hcellx⟩ := own_form hown (by omega)
            cases e
            have hggg : gg ≠ g := fun e => by
              have := hg6
              rw [← e, hcur] at this
              injection this with this
              injection this with _ this
              cases this
            have x0 : w6.cell? ⟨gg, ts.length * 3, none⟩ = some (.int .i64 0) := hcellx _ _ (by rw [List.getElem?_append_right (by have := HN.out; omega), HN.out.2.2]; simp)
            have x1 : w6.cell? ⟨gg, ts.length * 3 + 1, none⟩ = some (.int .i64 0) := hcellx _ _ (by rw [List.getElem?_append_right (by have := HN.out; omega), HN.out.2.2]; simp)
            have x2 : w6.cell? ⟨gg, ts.length * 3 + 2, none⟩ = some (.slice none 0 0) := hcellx _ _ (by rw [List.getElem?_append_right (by have := HN.out; omega), HN.out.2.2]; simp)
            have f0 : w6.frozen? ⟨gg, ts.length * 3, none⟩ = false := blk_frozen hcur _
            have f1 : w6.frozen? ⟨gg, ts.length * 3 + 1, none⟩ = false := blk_frozen hcur _
            have f2 : w6.frozen? ⟨gg, ts.length * 3 + 2, none⟩ = false := blk_frozen hcur _
            have y1 : w6.cell? ⟨g, 1, none⟩ = some (.slice (some ⟨tb, 0, none⟩) ts.length capt) := (blk_cell hg6 1).trans rfl
            have fy : w6.frozen? ⟨g, 1, none⟩ = false := blk_frozen hg6 1
            have hX : Below w.heap.size w (W4.alloc (.cells #[.int .i64 0, .int .i64 0, .slice none 0 0] 27)).drew := below_then HGI3.out.bel HGI3.out.bel.size BX
            have B6 : Below w.heap.size w w6 := pw_below_grown hX _ hX.size hgr (fun k hk => own_base HGI3.out.hT k hk)
            have HF := Lib.hid (And.intro hown (And.intro hgr (And.intro hat (And.intro hggg (And.intro B6 (And.intro BX (And.intro hg6 hcur)))))))
            refine hK.out _ _ y1 (fun hHeld => ?_)
            clear hK K hown hgr hat B6 BX hX hcellx hcur hg6 hgT
            refine norm_ (a' := ?_) ?_ ?_
            rotate_left
            · show Act.put _ (some 62) _ = _
              simp only [Act.put, List.setIfInBounds_toArray, List.set_cons_zero, List.set_cons_succ, i64_w, i32_w]
              rfl
            refine pure_ (i := 10) (N := some 63) (v := ?_) (a' := ?_) #[true, true, true, true, true, true, true, true, true, true, true, false, false, false, false] rfl rfl (any_of HT_.out (by kernel_rfl)) (fun _ _ _ h => h) (Or.inl ⟨by rfl, ?_⟩) ?_ ?_
            rotate_left
            · intro w'
              go_simp
              with_reducible rfl
            rotate_left
            · simp only [Act.put, List.setIfInBounds_toArray, List.set_cons_zero, List.set_cons_succ, i64_w, i32_w]
              rfl
            refine pure_ (i := 12) (N := some 64) (v := ?_) (a' := ?_) #[true, true, true, true, true, true, true, true, true, true, true, false, true, false, false] rfl rfl (any_of HT_.out (by kernel_rfl)) (fun _ _ _ h => h) (Or.inl ⟨by rfl, ?_⟩) ?_ ?_
            rotate_left
            · intro w'
              go_simp
              with_reducible rfl
            rotate_left
            · simp only [Act.put, List.setIfInBounds_toArray, List.set_cons_zero, List.set_cons_succ, i64_w, i32_w]
              rfl
            refine pure_ (i := 13) (N := some 65) (v := ?_) (a' := ?_) #[true, true, true, true, true, true, true, true, true, true, true, false, true, true, false] rfl rfl (any_of HT_.out (by kernel_rfl)) (fun _ _ _ h => h) (Or.inl ⟨by rfl, ?_⟩) ?_ ?_
            rotate_left
            · intro w'
              go_simp
              with_reducible rfl
            rotate_left
            · simp only [Act.put, List.setIfInBounds_toArray, List.set_cons_zero, List.set_cons_succ, i64_w, i32_w]
              rfl

            refine twoLL_ (i := 11) (j := 14) (Ni := none) (Nj := none) #[true, true, true, true, true, true, true, true, true, true, true, true, true, true, false] #[true, true, true, true, true, true, true, true, true, true, true, false, true, true, true] rfl rfl rfl rfl (two_of HT_.out (by kernel_rfl)) (by decide) (by decide) (fun K hK => ?_) (fun K hK => ?_)
            · refine skip_ (w1 := ?_) (by rfl) rfl ?_ ?_
              rotate_left
              · go_simp
                rfl
              refine hK.out _ _ ?_
              clear hK K hHeld
              have hga := blk_far (blk_far (blk_far HF.out.2.2.2.2.2.2.1 (p := ⟨gg, ts.length * 3, none⟩) (Ne.symm HF.out.2.2.2.1) (.int .i64 (-1))) (p := ⟨gg, ts.length * 3 + 1, none⟩) (Ne.symm HF.out.2.2.2.1) (.int .i64 (wrap64 (↑i + 1)))) (p := ⟨gg, ts.length * 3 + 2, none⟩) (Ne.symm HF.out.2.2.2.1) (.slice none 0 0)
              have HS := Lib.hid (store_A (v := .slice (some ⟨gg, 0, none⟩) (ts.length + 1) cap) (x' := .int .i64 (-1)) (y' := .int .i64 (wrap64 (↑i + 1))) (z' := .slice none 0 0) HF.out.1 HN.out.2.2 HF.out.2.2.2.2.2.2.1 HF.out.2.2.2.1 HGI3.out.g0 HF.out.2.2.2.2.1)
              clear x0 x1 x2 f0 f1 f2 y1 fy
              generalize (((w6.setCell ⟨gg, ts.length * 3, none⟩ (.int .i64 (-1))).setCell ⟨gg, ts.length * 3 + 1, none⟩ (.int .i64 (wrap64 (↑i + 1)))).setCell ⟨gg, ts.length * 3 + 2, none⟩ (.slice none 0 0)) = Wa at hga HS ⊢
              have y1 : Wa.cell? ⟨g, 1, none⟩ = some (.slice (some ⟨tb, 0, none⟩) ts.length capt) := (blk_cell hga 1).trans rfl
              have fy : Wa.frozen? ⟨g, 1, none⟩ = false := blk_frozen hga 1
              clear hga
              refine last_ (i := 14) (N := none) #[true, true, true, true, true, true, true, true, true, true, true, true, true, true, true] rfl rfl (one_of HT_.out (by kernel_rfl)) (by decide) (fun K hK => ?_)
              refine skip_ (w1 := ?_) (by rfl) rfl ?_ ?_
              rotate_left
              · go_simp
                rfl
              refine hK.out _ _ ?_
              clear hK K y1 fy
              refine done_ (done_of HT_.out (by kernel_rfl)) ?_
              clear HT_ HW_
              generalize (Wa.setCell ⟨g, 1, none⟩ (.slice (some ⟨gg, 0, none⟩) (ts.length + 1) cap)) = Y at HS ⊢
              go_wp2
              simp only [Exit.jump, Exit.inBlock, Exit.then]
              apply_assumption
              go_wp2
              go_roundw
              case rel =>
                rw [RX.out] at HT HJ
                obtain ⟨s1, s2, s3, s4⟩ := HS.out
                rw [EW.out] at s2
                exact ⟨i + 1, by omega, by go_num, Lib.hid (GS_next HGI3.out HF.out.2.2.2.2.2.1 HJ.out.2.2.1 HT.out HF.out.2.1 HF.out.2.2.1 s1 s2 s3 s4)⟩
              case measure => simp [intOf]; omega
            · refine skip_ (w1 := ?_) (by rfl) rfl ?_ ?_
              rotate_left
              · go_simp
                rfl
              refine hK.out _ _ ?_
              clear hK K hHeld
              have hgb := blk_far HF.out.2.2.2.2.2.2.2 (p := ⟨g, 1, none⟩) HF.out.2.2.2.1 (.slice (some ⟨gg, 0, none⟩) (ts.length + 1) cap)
              have HS := Lib.hid (store_B (v := .slice (some ⟨gg, 0, none⟩) (ts.length + 1) cap) (x' := .int .i64 (-1)) (y' := .int .i64 (wrap64 (↑i + 1))) (z' := .slice none 0 0) HF.out.1 HN.out.2.2 HF.out.2.2.2.2.2.2.1 HF.out.2.2.2.1 HGI3.out.g0 HF.out.2.2.2.2.1)
              replace x0 := (blk_cell hgb _).trans ((blk_cell HF.out.2.2.2.2.2.2.2 _).symm.trans x0)
              replace x1 := (blk_cell hgb _).trans ((blk_cell HF.out.2.2.2.2.2.2.2 _).symm.trans x1)
              replace x2 := (blk_cell hgb _).trans ((blk_cell HF.out.2.2.2.2.2.2.2 _).symm.trans x2)
              clear f0 f1 f2 y1 fy
              have f0 := blk_frozen hgb (ts.length * 3)
              have f1 := blk_frozen hgb (ts.length * 3 + 1)
              have f2 := blk_frozen hgb (ts.length * 3 + 2)
              clear hgb
              generalize (w6.setCell ⟨g, 1, none⟩ (.slice (some ⟨gg, 0, none⟩) (ts.length + 1) cap)) = Wb at x0 x1 x2 f0 f1 f2 HS ⊢
              refine last_ (i := 11) (N := none) #[true, true, true, true, true, true, true, true, true, true, true, true, true, true, true] rfl rfl (one_of HT_.out (by kernel_rfl)) (by decide) (fun K hK => ?_)
              refine skip_ (w1 := ?_) (by rfl) rfl ?_ ?_
              rotate_left
              · go_simp
                rfl
              refine hK.out _ _ ?_
              clear hK K x0 x1 x2 f0 f1 f2
              refine done_ (done_of HT_.out (by kernel_rfl)) ?_
              clear HT_ HW_
              generalize (((Wb.setCell ⟨gg, ts.length * 3, none⟩ (.int .i64 (-1))).setCell ⟨gg, ts.length * 3 + 1, none⟩ (.int .i64 (wrap64 (↑i + 1)))).setCell ⟨gg, ts.length * 3 + 2, none⟩ (.slice none 0 0)) = Y at HS ⊢
              go_wp2
              simp only [Exit.jump, Exit.inBlock, Exit.then]
              apply_assumption
              go_wp2
              go_roundw
              case rel =>
                rw [RX.out] at HT HJ
                obtain ⟨s1, s2, s3, s4⟩ := HS.out
                rw [EW.out] at s2
                exact ⟨i + 1, by omega, by go_num, Lib.hid (GS_next HGI3.out HF.out.2.2.2.2.2.1 HJ.out.2.2.1 HT.out HF.out.2.1 HF.out.2.2.1 s1 s2 s3 s4)⟩
              case measure => simp [intOf]; omega

          · obtain ⟨q, ws, rfl⟩ : ∃ q ws', ws = q :: ws' := by
              cases ws with
              | nil => cases hb
              | cons q ws => exact ⟨q, ws, rfl⟩
            obtain ⟨b, a, ts, rfl⟩ : ∃ b a ts', ts = b :: a :: ts' := by
              have := HJ.out.2.1
              match ts, this with
              | b :: a :: ts, _ => exact ⟨b, a, ts, rfl⟩
            have HT := Lib.hid hb
            clear hb
            have hl1 : ts.length = ws.length := by have := HJ.out.2.1; simp at this; omega
            have hl2 : ws.length ≤ 900 := by have := HJ.out.2.2.2.1; simp at this; omega
            have HL := Lib.hid (And.intro hl1 hl2)
            clear hl1 hl2
            go_wp2_with (first | (go_at_call 50; refine (GS_stronger HJ.out.1 HR.out HW.out.1 HW.out.2 HXS.out HS.out).mono ?_; rintro e W2 ⟨rfl, hb2⟩; rw [HT.out]; have HB2 := Lib.hid hb2; clear hb2) | (go_at_call 51; refine (GS_apply (GS_below HJ.out.1 HB2.out) HL.out.1 HL.out.2).mono ?_; rintro e W3 ⟨rfl, hg3⟩; have HG3 := Lib.hid hg3; clear hg3))
            go_step3
            refine ⟨rfl, ⟨⟨_, _, _, _, _, _, _, _, _, _, _, _, _, _, _, _, _, _, _, _, _, _, _, _, _, _, _, _, _, _, _, _, _, rfl⟩, ws, nodeT q a b :: ts, Lib.hid ⟨HG3.out, ?_, ?_, ?_, ?_⟩⟩, ?_⟩
            · have := HL.out.1; simp; omega
            · have h1 := HJ.out.2.2.1
              rw [← h1]
              simp only [popA]
              rw [if_pos (by simpa [topB] using HT.out)]
            · have := HJ.out.2.2.2.1; simp at this; omega
            · exact fun z hz => HJ.out.2.2.2.2 z (List.mem_cons_of_mem _ hz)
            · show waitLen g _ < waitLen g _
              rw [GS_wait HG3.out, GS_wait HJ.out.1]
              simp
        · have hil : i = l.length := by omega
          subst hil
          obtain ⟨wo2, rfl⟩ : ∃ wo2 : World, wo2 = wr := ⟨_, rfl⟩
          go_wp2_with fail
          go_loopw [] (fun w' => ∃ (ws : List Nat) (ts : List S27), Hid (GS w w' g w.heap.size (.slice A0 l.length c0) ws ts ∧ ts.length = ws.length + 1 ∧ finA ws ts = finA (runA l l.length).1 (runA l l.length).2 ∧ ws.length ≤ 900)) (fun w' => waitLen g w')
          case atStart => exact ⟨_, _, Lib.hid ⟨HG.out, (runA_len l _).1, rfl, by have := (runA_len l l.length).2.1; omega⟩⟩
          case round =>
            clear HG
            obtain ⟨ws, ts, HJ⟩ := hrel
            cases ws with
            | nil =>
              obtain ⟨t, rfl⟩ : ∃ t, ts = [t] := by
                have := HJ.out.2.1
                match ts, this with
                | [t], _ => exact ⟨t, rfl⟩
              obtain ⟨vT, vW, cells, hgi⟩ := HJ.out.1
              obtain ⟨tb, capt, hvT, htb0, hcapt, hclt, _, hcell⟩ := own_form hgi.hT (by simp)
              simp only [List.length_cons, List.length_nil, Nat.zero_add] at hvT hcapt
              have hv : ∃ ao capw, vW = .slice ao 0 capw := by
                rcases hgi.hW.2 with ⟨e, _⟩ | ⟨b, cap, cur, e, _⟩
                · exact ⟨_, _, e⟩
                · exact ⟨_, _, e⟩
              obtain ⟨ao, capw, hvW⟩ := hv
              have el := hgi.el 0 t rfl
              rw [Nat.zero_mul, List.drop_zero] at el
              obtain ⟨A2, c2, hcs, hl2, hF⟩ := k27_openF el
              have hc3 : ∀ j u, [Value.int .i64 t.f0, .int .i64 t.f1, .slice A2 t.f2.length c2][j]? = some u → wr.cell? ⟨tb, j, none⟩ = some u := fun j u hu => hcell j u (by
                rw [← hcs, List.getElem?_take] at hu
                split at hu
                · exact hu
                · cases hu)
              have t0 := hc3 0 _ rfl
              have t1 := hc3 1 _ rfl
              have t2 := hc3 2 _ rfl
              have g1_ : wr.cell? ⟨g, 1, none⟩ = some (.slice (some ⟨tb, 0, none⟩) 1 capt) := (blk_cell hgi.hg 1).trans (by rw [hvT]; rfl)
              have g2_ : wr.cell? ⟨g, 2, none⟩ = some (.slice ao 0 capw) := (blk_cell hgi.hg 2).trans (by rw [hvW]; rfl)
              have c0_ : wr.cell? ⟨w.heap.size, 0, none⟩ = some (.int .i64 0) := (blk_cell hgi.hr 0).trans rfl
              have c1_ : wr.cell? ⟨w.heap.size, 1, none⟩ = some (.int .i64 0) := (blk_cell hgi.hr 1).trans rfl
              have c2_ : wr.cell? ⟨w.heap.size, 2, none⟩ = some (.slice none 0 0) := (blk_cell hgi.hr 2).trans rfl
              have f0_ := blk_frozen hgi.hr 0
              have f1_ := blk_frozen hgi.hr 1
              have f2_ := blk_frozen hgi.hr 2
              have HE := Lib.hid (And.intro el (And.intro hcs hgi))
              clear hvT htb0 hcapt hclt hcell hvW el hcs hl2 hF hc3 hgi
              go_wp2
              have hfin : GPost w (grpOut l) (.returned (.tuple #[.agg #[.int .i64 t.f0, .int .i64 t.f1, .slice A2 t.f2.length c2], .bool true])) (((wr.setCell ⟨w.heap.size, 0, none⟩ (.int .i64 t.f0)).setCell ⟨w.heap.size, 1, none⟩ (.int .i64 t.f1)).setCell ⟨w.heap.size, 2, none⟩ (.slice A2 t.f2.length c2)) := by
                have hg : grpOut l = (t.f0, t.f1, t.f2, true) := by
                  unfold grpOut
                  rw [if_neg (by rintro ⟨j, hj, h0⟩; exact HI.out.1 j (by have := HKL.out; omega) h0)]
                  have : grpB l = t := by
                    unfold grpB
                    rw [← HJ.out.2.2.1]
                    rfl
                  rw [this]
                rw [hg]
                have hmv : ∀ k, k ≠ w.heap.size → (((wr.setCell ⟨w.heap.size, 0, none⟩ (.int .i64 t.f0)).setCell ⟨w.heap.size, 1, none⟩ (.int .i64 t.f1)).setCell ⟨w.heap.size, 2, none⟩ (.slice A2 t.f2.length c2)).heap[k]? = wr.heap[k]? := fun k hk => by
                  rw [Below.heap_setCell _ _ _ _ (show k ≠ w.heap.size from hk), Below.heap_setCell _ _ _ _ (show k ≠ w.heap.size from hk), Below.heap_setCell _ _ _ _ (show k ≠ w.heap.size from hk)]
                have el' := Kd.FK_mono (ok' := fun k => w.heap.size ≤ k) (Kd.FK_step HE.out.1 (fun k hk _ => hmv k hk.2.2.1)) (fun k hk => hk.1)
                rw [HE.out.2.1] at el'
                obtain ⟨A2', c2', e, hl2', hF'⟩ := k27_openF el'
                simp at e
                obtain ⟨rfl, rfl⟩ := e
                exact ⟨_, rfl, Kd.V_mk hl2' hF', below_set (below_set (below_set HE.out.2.2.bel (Nat.le_refl _)) (Nat.le_refl _)) (Nat.le_refl _)⟩
              have hrf : (((wr.setCell ⟨w.heap.size, 0, none⟩ (.int .i64 t.f0)).setCell ⟨w.heap.size, 1, none⟩ (.int .i64 t.f1)).setCell ⟨w.heap.size, 2, none⟩ (.slice A2 t.f2.length c2)).heap[w.heap.size]? = some (.cells #[.int .i64 t.f0, .int .i64 t.f1, .slice A2 t.f2.length c2] 27 (0, 0)) := blk_set (blk_set (blk_set HE.out.2.2.hr 0 _) 1 _) 2 _
              generalize (((wr.setCell ⟨w.heap.size, 0, none⟩ (.int .i64 t.f0)).setCell ⟨w.heap.size, 1, none⟩ (.int .i64 t.f1)).setCell ⟨w.heap.size, 2, none⟩ (.slice A2 t.f2.length c2)) = WF at hfin hrf ⊢
              have z0 : WF.cell? ⟨w.heap.size, 0, none⟩ = some (.int .i64 t.f0) := (blk_cell hrf 0).trans rfl
              have z1 : WF.cell? ⟨w.heap.size, 1, none⟩ = some (.int .i64 t.f1) := (blk_cell hrf 1).trans rfl
              have z2 : WF.cell? ⟨w.heap.size, 2, none⟩ = some (.slice A2 t.f2.length c2) := (blk_cell hrf 2).trans rfl
              refine bodyPost_ret (v := .tuple #[.agg #[.int .i64 t.f0, .int .i64 t.f1, .slice A2 t.f2.length c2], .bool true]) ?_ rfl hfin
              simp [results, Try.results13, go_sem, z0, z1, z2]
            | cons q ws =>
              obtain ⟨b, a, ts, rfl⟩ : ∃ b a ts', ts = b :: a :: ts' := by
                have := HJ.out.2.1
                match ts, this with
                | b :: a :: ts, _ => exact ⟨b, a, ts, rfl⟩
              have hl1 : ts.length = ws.length := by have := HJ.out.2.1; simp at this; omega
              have hl2 : ws.length ≤ 900 := by have := HJ.out.2.2.2; simp at this; omega
              obtain ⟨vT, vW, cells, hgi⟩ := HJ.out.1
              obtain ⟨wb, capw, hvW, _, _, _, _, _⟩ := own_form hgi.hW (by simp)
              simp only [List.length_cons] at hvW
              have g2_ : wr.cell? ⟨g, 2, none⟩ = some (.slice (some ⟨wb, 0, none⟩) (ws.length + 1) capw) := (blk_cell hgi.hg 2).trans (by rw [hvW]; rfl)
              have p1 : (0 : Int) < (ws.length : Int) + 1 := by omega
              have HL := Lib.hid (And.intro hl1 hl2)
              clear hl1 hl2 hvW hgi
              go_wp2_with (go_at_call 51; refine (GS_apply HJ.out.1 HL.out.1 HL.out.2).mono ?_; rintro e W3 ⟨rfl, hg3⟩; have HG3 := Lib.hid hg3; clear hg3)
              go_roundw
              case rel =>
                refine ⟨ws, nodeT q a b :: ts, Lib.hid ⟨HG3.out, ?_, ?_, ?_⟩⟩
                · have := HL.out.1; simp; omega
                · rw [← HJ.out.2.2.1]; rfl
                · exact HL.out.2
              case measure =>
                show waitLen g _ < waitLen g _
                rw [GS_wait HG3.out, GS_wait HJ.out.1]
                simp

def group_Group.f (l0 : List ByteArray) : Option (Int × Int × List S27 × Bool) := if l0.length ≤ 900 ∧ ∀ s ∈ l0, s.size ≤ 9223372036854775807 then some (grpOut l0) else none
theorem group_Group.calls (A0 : Option Addr) (c0 : Nat) (l0 : List ByteArray) (r1 : Int) (r2 : Int) (r3 : List S27) (r4 : Bool) (w : World) (hr0 : Kd.C Kd.string w A0 l0.length l0) (hc0 : l0.length ≤ c0) (h : group_Group.f l0 = some (r1, r2, r3, r4)) :
    Calls Try.prog 13 #[.slice A0 l0.length c0] w fun e w' => ∃ v2_ : Value, e = .returned (.tuple #[.agg #[.int .i64 r1, .int .i64 r2, v2_], .bool r4]) ∧ Kd.V k27 27 w' w.heap.size (fun k_ => (w.heap.size ≤ k_)) v2_ r3 ∧ Below w.heap.size w w' := by
  unfold group_Group.f at h
  split at h
  · rename_i hc
    injection h with h
    refine (Group_any A0 c0 l0 w hr0 hc0 hc.1 hc.2).mono ?_
    rintro e w' ⟨v2, rfl, hv, hb⟩
    rw [h] at hv ⊢
    exact ⟨v2, rfl, hv, hb⟩
  · cases h

end Go.Proofs.Ytjnhdoaceegkoaa.PGw
