-- WRITTEN BY gprint.py, a program of this session, out of the translation (over the kit's print.py): Lean checks it.
import Derived.Test.YtjnhdoaceegkoaaPGwx0
import Derived.WalkLawsBesides
import Derived.LoopTactic
import Derived.ProofKit
import Derived.Lib.Hide
import Derived.Deep.DeepCutAuto
import Derived.IntWalk
import Derived.WalkMore
import Derived.Maps.AppendAt
import Derived.Deep.DeepMust
namespace Go.Proofs.Ytjnhdoaceegkoaa.PGw
open Go.RowKit Go.Proofs.YtjnhdoaceegkoaaW.PrintWords Go.Proofs.YtjnhdoaceegkoaaW.PrintLast Go.Proofs.YtjnhdoaceegkoaaW.PrintMore
attribute [local go_sem] max2_int min2_int max_two min_two max_three min_three max_four min_four   -- for this text's walks alone
set_option linter.unusedVariables false
set_option linter.unusedSimpArgs false

--@given oriel/group.Leaves making=1 rounds=1
--@given oriel/group.Signs making=1 rounds=1
--@import Derived.WalkLawsBesides
--@import Derived.LoopTactic
--@import Derived.ProofKit
--@import Derived.Lib.Hide
--@import Derived.Deep.DeepCutAuto
--@import Derived.IntWalk
--@import Derived.WalkMore
--@import Derived.Maps.AppendAt
--@import Derived.Deep.DeepMust
/-! ### group_Leaves, group_Signs: group.gather with its closures, by hand -/
theorem own_formL {w : World} {base e size n : Nat} {v : Value} {xs : List Value} (h : w.ownsRow base e size v n xs) (hn : 0 < n) :
    ∃ g cap, v = .slice (some ⟨g, 0, none⟩) n cap ∧ base ≤ g ∧ n ≤ cap ∧ xs.length = n * size ∧ (∃ cur, w.heap[g]? = some (.cells cur e (0, 0)) ∧ cur.size = cap * size ∧ cur.toList.take (n * size) = xs) ∧ ∀ j u, xs[j]? = some u → w.cell? ⟨g, j, none⟩ = some u := by
  obtain ⟨hl, h | ⟨g, cap, cur, rfl, hb, hh, hc, _, hs, ht⟩⟩ := h
  · omega
  · refine ⟨g, cap, rfl, hb, hc, hl, ⟨cur, hh, hs, ht⟩, fun j u hj => ?_⟩
    rw [cell_of_row _ _ j cur e (0, 0) hh]
    rw [← ht, List.getElem?_take] at hj
    split at hj
    · simpa using hj
    · cases hj

def own1 (sg : Bool) (s lf : Int) : List Int := if sg = true then (if 0 ≤ s then [s] else []) else (if s < 0 then [lf] else [])
def gkids (F : S27 → Option (List Int)) : List S27 → Option (List Int)
  | [] => some []
  | t :: r => (F t).bind fun x => (gkids F r).bind fun y => some (x ++ y)
def gth (sg : Bool) : Nat → Int → Int → List S27 → Option (List Int)
  | 0, _, _, _ => none
  | k + 1, s, lf, kids => (gkids (fun t => gth sg k t.f0 t.f1 t.f2) kids).bind fun xs => some (xs ++ own1 sg s lf)
theorem gkids_mono {F G : S27 → Option (List Int)} (h : ∀ t, LeO (F t) (G t)) : ∀ l, LeO (gkids F l) (gkids G l)
  | [] => LeO.refl _
  | t :: r => LeO.bind (h t) fun _ => LeO.bind (gkids_mono h r) fun _ => LeO.refl _
theorem gth_mono (sg : Bool) : ∀ k s lf kids, LeO (gth sg k s lf kids) (gth sg (k + 1) s lf kids)
  | 0, _, _, _ => LeO.none _
  | k + 1, s, lf, kids => LeO.bind (gkids_mono (fun t => gth_mono sg k t.f0 t.f1 t.f2) kids) fun _ => LeO.refl _
def gl56.T1 : Bool × List (List Nat × List Nat) := (true, [([], []), ([0], [0]), ([], []), ([2], [2]), ([3], [3]), ([1, 0, 1], [1]), ([4, 5, 0, 1, 2, 3, 4, 5], [4])])
def gl56.B1 : List Nat := [0, 1, 0, 4, 12, 3, 63]
theorem gl56.tab1 : rtab .any (opsOf Try.f56 1) = gl56.T1 := by kernel_rfl
theorem gl56.bits1 : waitsOk gl56.T1.2 gl56.B1 = true := by kernel_rfl
set_option linter.unusedSimpArgs false in
set_option maxHeartbeats 4000000 in
set_option maxRecDepth 100000 in
theorem is56_any (s lf : Int) (v : Value) (w : World) : Calls Try.prog 56 #[.agg #[.int .i64 s, .int .i64 lf, v]] w fun e w' => e = .returned (.tuple #[.int .i64 lf, .bool (decide (s < 0))]) ∧ Below w.heap.size w w' := by
  have HB := Lib.hid (below_alloc (Below.refl w.heap.size w) (.cells #[.int .i64 s, .int .i64 lf, v] 27))
  have hbt : (w.alloc (.cells #[.int .i64 s, .int .i64 lf, v] 27)).heap[w.heap.size]? = some (.cells #[.int .i64 s, .int .i64 lf, v] 27 (0, 0)) := blk_new w _
  have HBT := Lib.hid hbt
  clear hbt
  go_enter Try.func56, Try.ntmps56
  go_wp2_with fail
  generalize (w.alloc (.cells #[.int .i64 s, .int .i64 lf, v] 27)) = W at HB HBT ⊢
  refine start_ (n := 7) (S := fun w' => w'.cell? ⟨w.heap.size, 0, none⟩ = some (.int .i64 s) ∧ w'.cell? ⟨w.heap.size, 1, none⟩ = some (.int .i64 lf)) (ds := []) #[false, false, false, false, false, false, false] (by kernel_rfl) rfl rfl ⟨(blk_cell HBT.out 0).trans rfl, (blk_cell HBT.out 1).trans rfl⟩ (fun hHeld => ?_)
  refine with_tabW gl56.tab1 gl56.bits1 (fun HT_ HW_ => ?_)
  refine pure_ (i := 0) (N := some 4) (v := ?_) (a' := ?_) #[true, false, false, false, false, false, false] rfl rfl (any_of HT_.out (by kernel_rfl)) (fun _ _ _ h => h) (Or.inl ⟨by rfl, ?_⟩) ?_ ?_
  rotate_left
  · intro w'
    go_simp
    with_reducible rfl
  rotate_left
  · simp only [Act.put, List.setIfInBounds_toArray, List.set_cons_zero, List.set_cons_succ, i64_w, i32_w]
    rfl
  refine take_ (i := 1) (N := some 5) (v := ?_) (a' := ?_) #[true, true, false, false, false, false, false] rfl rfl (take_ofW HT_.out HW_.out (by kernel_rfl)) (fun _ _ _ h => h) (Or.inl ⟨by rfl, ?_⟩) hHeld ?_ ?_
  rotate_left
  · intro w' s0
    go_simp
    with_reducible rfl
  rotate_left
  · simp only [Act.put, List.setIfInBounds_toArray, List.set_cons_zero, List.set_cons_succ, i64_w, i32_w]
    rfl
  refine pure_ (i := 2) (N := some 6) (v := ?_) (a' := ?_) #[true, true, true, false, false, false, false] rfl rfl (any_of HT_.out (by kernel_rfl)) (fun _ _ _ h => h) (Or.inl ⟨by rfl, ?_⟩) ?_ ?_
  rotate_left
  · intro w'
    go_simp
    with_reducible rfl
  rotate_left
  · simp only [Act.put, List.setIfInBounds_toArray, List.set_cons_zero, List.set_cons_succ, i64_w, i32_w]
    rfl
  refine take_ (i := 3) (N := some 7) (v := ?_) (a' := ?_) #[true, true, true, true, false, false, false] rfl rfl (take_ofW HT_.out HW_.out (by kernel_rfl)) (fun _ _ _ h => h) (Or.inl ⟨by rfl, ?_⟩) hHeld ?_ ?_
  rotate_left
  · intro w' s0
    go_simp
    with_reducible rfl
  rotate_left
  · simp only [Act.put, List.setIfInBounds_toArray, List.set_cons_zero, List.set_cons_succ, i64_w, i32_w]
    rfl
  refine pure_ (i := 4) (N := some 8) (v := ?_) (a' := ?_) #[true, true, true, true, true, false, false] rfl rfl (any_of HT_.out (by kernel_rfl)) (fun _ _ _ h => h) (Or.inl ⟨by rfl, ?_⟩) ?_ ?_
  rotate_left
  · intro w'
    go_simp
    with_reducible rfl
  rotate_left
  · simp only [Act.put, List.setIfInBounds_toArray, List.set_cons_zero, List.set_cons_succ, i64_w, i32_w]
    rfl
  refine pure_ (i := 5) (N := some 2) (v := ?_) (a' := ?_) #[true, true, true, true, true, true, false] rfl rfl (any_of HT_.out (by kernel_rfl)) (fun _ _ _ h => h) (Or.inl ⟨by rfl, ?_⟩) ?_ ?_
  rotate_left
  · intro w'
    go_simp
    with_reducible rfl
  rotate_left
  · simp only [Act.put, List.setIfInBounds_toArray, List.set_cons_zero, List.set_cons_succ, i64_w, i32_w]
    rfl
  refine pure_ (i := 6) (N := some 3) (v := ?_) (a' := ?_) #[true, true, true, true, true, true, true] rfl rfl (any_of HT_.out (by kernel_rfl)) (fun _ _ _ h => h) (Or.inl ⟨by rfl, ?_⟩) ?_ ?_
  rotate_left
  · intro w'
    go_simp
    with_reducible rfl
  rotate_left
  · simp only [Act.put, List.setIfInBounds_toArray, List.set_cons_zero, List.set_cons_succ, i64_w, i32_w]
    rfl
  refine done_ (done_of HT_.out (by kernel_rfl)) ?_

  go_wp2
  refine bodyPost_ret (v := .tuple #[.int .i64 lf, .bool (decide (s < 0))]) ?_ rfl ⟨rfl, below_drew HB.out⟩
  simp [results, Try.results56, go_sem]
def gl57.T1 : Bool × List (List Nat × List Nat) := (true, [([], []), ([0], [0]), ([], []), ([2], [2]), ([3], [3]), ([1, 0, 1], [1]), ([4, 5, 0, 1, 2, 3, 4, 5], [4])])
def gl57.B1 : List Nat := [0, 1, 0, 4, 12, 3, 63]
theorem gl57.tab1 : rtab .any (opsOf Try.f57 1) = gl57.T1 := by kernel_rfl
theorem gl57.bits1 : waitsOk gl57.T1.2 gl57.B1 = true := by kernel_rfl
set_option linter.unusedSimpArgs false in
set_option maxHeartbeats 4000000 in
set_option maxRecDepth 100000 in
theorem is57_any (s lf : Int) (v : Value) (w : World) : Calls Try.prog 57 #[.agg #[.int .i64 s, .int .i64 lf, v]] w fun e w' => e = .returned (.tuple #[.int .i64 s, .bool (decide (0 ≤ s))]) ∧ Below w.heap.size w w' := by
  have HB := Lib.hid (below_alloc (Below.refl w.heap.size w) (.cells #[.int .i64 s, .int .i64 lf, v] 27))
  have hbt : (w.alloc (.cells #[.int .i64 s, .int .i64 lf, v] 27)).heap[w.heap.size]? = some (.cells #[.int .i64 s, .int .i64 lf, v] 27 (0, 0)) := blk_new w _
  have HBT := Lib.hid hbt
  clear hbt
  go_enter Try.func57, Try.ntmps57
  go_wp2_with fail
  generalize (w.alloc (.cells #[.int .i64 s, .int .i64 lf, v] 27)) = W at HB HBT ⊢
  refine start_ (n := 7) (S := fun w' => w'.cell? ⟨w.heap.size, 0, none⟩ = some (.int .i64 s) ∧ w'.cell? ⟨w.heap.size, 1, none⟩ = some (.int .i64 lf)) (ds := []) #[false, false, false, false, false, false, false] (by kernel_rfl) rfl rfl ⟨(blk_cell HBT.out 0).trans rfl, (blk_cell HBT.out 1).trans rfl⟩ (fun hHeld => ?_)
  refine with_tabW gl57.tab1 gl57.bits1 (fun HT_ HW_ => ?_)
  refine pure_ (i := 0) (N := some 4) (v := ?_) (a' := ?_) #[true, false, false, false, false, false, false] rfl rfl (any_of HT_.out (by kernel_rfl)) (fun _ _ _ h => h) (Or.inl ⟨by rfl, ?_⟩) ?_ ?_
  rotate_left
  · intro w'
    go_simp
    with_reducible rfl
  rotate_left
  · simp only [Act.put, List.setIfInBounds_toArray, List.set_cons_zero, List.set_cons_succ, i64_w, i32_w]
    rfl
  refine take_ (i := 1) (N := some 5) (v := ?_) (a' := ?_) #[true, true, false, false, false, false, false] rfl rfl (take_ofW HT_.out HW_.out (by kernel_rfl)) (fun _ _ _ h => h) (Or.inl ⟨by rfl, ?_⟩) hHeld ?_ ?_
  rotate_left
  · intro w' s0
    go_simp
    with_reducible rfl
  rotate_left
  · simp only [Act.put, List.setIfInBounds_toArray, List.set_cons_zero, List.set_cons_succ, i64_w, i32_w]
    rfl
  refine pure_ (i := 2) (N := some 6) (v := ?_) (a' := ?_) #[true, true, true, false, false, false, false] rfl rfl (any_of HT_.out (by kernel_rfl)) (fun _ _ _ h => h) (Or.inl ⟨by rfl, ?_⟩) ?_ ?_
  rotate_left
  · intro w'
    go_simp
    with_reducible rfl
  rotate_left
  · simp only [Act.put, List.setIfInBounds_toArray, List.set_cons_zero, List.set_cons_succ, i64_w, i32_w]
    rfl
  refine take_ (i := 3) (N := some 7) (v := ?_) (a' := ?_) #[true, true, true, true, false, false, false] rfl rfl (take_ofW HT_.out HW_.out (by kernel_rfl)) (fun _ _ _ h => h) (Or.inl ⟨by rfl, ?_⟩) hHeld ?_ ?_
  rotate_left
  · intro w' s0
    go_simp
    with_reducible rfl
  rotate_left
  · simp only [Act.put, List.setIfInBounds_toArray, List.set_cons_zero, List.set_cons_succ, i64_w, i32_w]
    rfl
  refine pure_ (i := 4) (N := some 8) (v := ?_) (a' := ?_) #[true, true, true, true, true, false, false] rfl rfl (any_of HT_.out (by kernel_rfl)) (fun _ _ _ h => h) (Or.inl ⟨by rfl, ?_⟩) ?_ ?_
  rotate_left
  · intro w'
    go_simp
    with_reducible rfl
  rotate_left
  · simp only [Act.put, List.setIfInBounds_toArray, List.set_cons_zero, List.set_cons_succ, i64_w, i32_w]
    rfl
  refine pure_ (i := 5) (N := some 2) (v := ?_) (a' := ?_) #[true, true, true, true, true, true, false] rfl rfl (any_of HT_.out (by kernel_rfl)) (fun _ _ _ h => h) (Or.inl ⟨by rfl, ?_⟩) ?_ ?_
  rotate_left
  · intro w'
    go_simp
    with_reducible rfl
  rotate_left
  · simp only [Act.put, List.setIfInBounds_toArray, List.set_cons_zero, List.set_cons_succ, i64_w, i32_w]
    rfl
  refine pure_ (i := 6) (N := some 3) (v := ?_) (a' := ?_) #[true, true, true, true, true, true, true] rfl rfl (any_of HT_.out (by kernel_rfl)) (fun _ _ _ h => h) (Or.inl ⟨by rfl, ?_⟩) ?_ ?_
  rotate_left
  · intro w'
    go_simp
    with_reducible rfl
  rotate_left
  · simp only [Act.put, List.setIfInBounds_toArray, List.set_cons_zero, List.set_cons_succ, i64_w, i32_w]
    rfl
  refine done_ (done_of HT_.out (by kernel_rfl)) ?_

  go_wp2
  refine bodyPost_ret (v := .tuple #[.int .i64 s, .bool (decide (0 ≤ s))]) ?_ rfl ⟨rfl, below_drew HB.out⟩
  simp [results, Try.results57, go_sem]

def GW (w0 W : World) (bw bi bl F : Nat) (xs : List Int) : Prop := ∃ v : Value, W.heap[bw]? = some (.cells #[.func (.func 102) #[] #[.pointer (some ⟨bw, 0, none⟩), .pointer (some ⟨bi, 0, none⟩), .pointer (some ⟨bl, 0, none⟩)]] 126 (0, 0)) ∧
  W.heap[bi]? = some (.cells #[.func (.func F) #[] #[]] 86 (0, 0)) ∧ W.heap[bl]? = some (.cells #[v] 38 (0, 0)) ∧ w0.heap.size ≤ bl ∧ W.ownsRow w0.heap.size 3 1 v xs.length (xs.map (Value.int .i64)) ∧ Below w0.heap.size w0 W
theorem GW.bel {w0 W : World} {bw bi bl F : Nat} {xs : List Int} (h : GW w0 W bw bi bl F xs) : Below w0.heap.size w0 W := by
  obtain ⟨v, _, _, _, _, _, h⟩ := h
  exact h
theorem GW_below {w0 W W' : World} {bw bi bl F : Nat} {xs : List Int} (h : GW w0 W bw bi bl F xs) (hb : Below W.heap.size W W') : GW w0 W' bw bi bl F xs := by
  obtain ⟨v, h1, h2, h3, h4, h5, h6⟩ := h
  exact ⟨v, blk_below h1 hb, blk_below h2 hb, blk_below h3 hb, h4, own_move h5 (fun k hk => hb.block k (own_lt h5 k hk)), below_step h6 hb⟩
/-- blocks that hold no row of whole numbers stay, the list's variable apart -/
def TF (W W' : World) (bl : Nat) : Prop := ∀ j cs t, W.heap[j]? = some (.cells cs t (0, 0)) → t ≠ 3 → j ≠ bl → W'.heap[j]? = some (.cells cs t (0, 0))
theorem TF.refl (W : World) (bl : Nat) : TF W W bl := fun _ _ _ h _ _ => h
theorem TF.trans {W W' W'' : World} {bl : Nat} (h : TF W W' bl) (h' : TF W' W'' bl) : TF W W'' bl := fun j cs t h1 h2 h3 => h' j cs t (h j cs t h1 h2 h3) h2 h3
theorem TF.of_below {W W' : World} (h : Below W.heap.size W W') (bl : Nat) : TF W W' bl := fun _ _ _ h1 _ _ => blk_below h1 h

theorem kt_int2 : (Try.prog.info? 3).map (fun i => (i.zero, i.size, i.bytes)) = some (some (.int .i64 0), 1, 8) := by kernel_rfl
theorem GW_push {w0 W4 X W5 : World} {bw bi bl F : Nat} {v v' : Value} {xs : List Int} {n : Int} (h1 : W4.heap[bw]? = some (.cells #[.func (.func 102) #[] #[.pointer (some ⟨bw, 0, none⟩), .pointer (some ⟨bi, 0, none⟩), .pointer (some ⟨bl, 0, none⟩)]] 126 (0, 0)))
    (h2 : W4.heap[bi]? = some (.cells #[.func (.func F) #[] #[]] 86 (0, 0))) (h3 : W4.heap[bl]? = some (.cells #[v] 38 (0, 0))) (h4 : w0.heap.size ≤ bl) (h5 : W4.ownsRow w0.heap.size 3 1 v xs.length (xs.map (Value.int .i64))) (h6 : Below w0.heap.size w0 W4)
    (hb : Below W4.heap.size W4 X) (hown : W5.ownsRow w0.heap.size 3 1 v' (xs.length + 1) (xs.map (Value.int .i64) ++ [.int .i64 n])) (hgr : X.grownBy W5 v.ownBlock) (hat : v'.ownBlock = v.ownBlock ∨ v'.ownBlock = some X.heap.size) :
    GW w0 (W5.setCell ⟨bl, 0, none⟩ v') bw bi bl F (xs ++ [n]) ∧ TF W4 (W5.setCell ⟨bl, 0, none⟩ v') bl ∧ W5.heap[bl]? = some (.cells #[v] 38 (0, 0)) := by
  have keep : ∀ (j : Nat) (cs : Array Value) (t : TypeId), W4.heap[j]? = some (.cells cs t (0, 0)) → t ≠ 3 → W5.heap[j]? = some (.cells cs t (0, 0)) := fun j cs t hj ht => by
    have hne : some j ≠ v.ownBlock := fun e => by
      obtain ⟨c, hc⟩ := own_typed h5 j e.symm
      rw [hc] at hj
      injection hj with hj
      injection hj with _ hj
      exact ht hj.symm
    exact (hgr.block j (by have := blk_lt hj; have := hb.size; omega) hne).trans (blk_below hj hb)
  have tf : TF W4 (W5.setCell ⟨bl, 0, none⟩ v') bl := fun j cs t hj ht hbl => (Below.heap_setCell _ _ _ _ (show j ≠ bl from hbl)).trans (keep j cs t hj ht)
  have hbl := blk_lt h3
  have hX := hb.size
  refine ⟨⟨v', tf bw _ 126 h1 (by decide) (blk_ne h1 h3 (by decide)), tf bi _ 86 h2 (by decide) (blk_ne h2 h3 (by decide)), blk_set (keep bl _ 38 h3 (by decide)) 0 v', h4, ?_, ?_⟩, tf, keep bl _ 38 h3 (by decide)⟩
  · rw [List.map_append, List.length_append]
    refine own_move hown (fun k hk => Below.heap_setCell _ _ _ _ (show k ≠ bl from fun e => ?_))
    subst e
    rcases hat with hat | hat
    · obtain ⟨c, hc⟩ := own_typed h5 k (by rw [← hat]; exact hk)
      rw [h3] at hc
      injection hc with hc
      injection hc with _ hc
      cases hc
    · rw [hk] at hat
      injection hat with hat
      omega
  · have hbX : Below w0.heap.size w0 X := below_then h6 h6.size hb
    exact below_set (pw_below_grown hbX _ hbX.size hgr (fun k hk => own_base h5 k hk)) h4

set_option linter.unusedSimpArgs false in
set_option maxHeartbeats 4000000 in
set_option maxRecDepth 100000 in
theorem walk56 (k : Nat) : ∀ (w0 : World) (bw bi bl : Nat) (s lf : Int) (A : Option Addr) (c : Nat) (kids : List S27) (W : World) (xs ys : List Int), Kd.C k27 w0 A kids.length kids → GW w0 W bw bi bl 56 xs → gth false k s lf kids = some ys → (xs ++ ys).length ≤ 1000000 →
    Calls Try.prog 102 #[.agg #[.int .i64 s, .int .i64 lf, .slice A kids.length c], .pointer (some ⟨bw, 0, none⟩), .pointer (some ⟨bi, 0, none⟩), .pointer (some ⟨bl, 0, none⟩)] W fun e W' => e = .returned (.tuple #[]) ∧ GW w0 W' bw bi bl 56 (xs ++ ys) ∧ TF W W' bl := by
  induction k with
  | zero =>
    intro w0 bw bi bl s lf A c kids W xs ys hC hG h hl
    cases h
  | succ k ih =>
    intro w0 bw bi bl s lf A c kids W xs ys hC hG h hl
    unfold gth at h
    obtain ⟨zs, hz, h⟩ := Option.bind_eq_some_iff.1 h
    injection h with h
    have hW1 : Below W.heap.size W (W.alloc (.cells #[.int .i64 s, .int .i64 lf, .slice A kids.length c] 27)) := below_alloc (Below.refl _ _) _
    have HT1 := Lib.hid (blk_new W (.cells #[.int .i64 s, .int .i64 lf, .slice A kids.length c] 27))
    have HG1 := Lib.hid (GW_below hG hW1)
    have HB1 := Lib.hid hW1
    have HC := Lib.hid hC
    have HZ := Lib.hid hz
    have HY := Lib.hid h
    have HL := Lib.hid hl
    have IH := Lib.hid ih
    clear hC hG h hz hl ih hW1
    go_enter Try.func102, Try.ntmps102
    go_wp2_with fail
    have kl : kids.length ≤ 9223372036854775807 := HC.out.2.1
    obtain ⟨W1, hW1⟩ : ∃ W1, W1 = (W.alloc (.cells #[.int .i64 s, .int .i64 lf, .slice A kids.length c] 27)) := ⟨_, rfl⟩
    rw [← hW1] at HT1 HG1 HB1 ⊢
    clear hW1
    obtain ⟨bt, hbt⟩ : ∃ bt, bt = W.heap.size := ⟨_, rfl⟩
    rw [← hbt] at HT1 ⊢
    clear hbt
    go_loopw [12] (fun v12 wr => ∃ (i : Nat) (us rs : List Int), i ≤ kids.length ∧ v12 = .int .i64 i ∧ Hid (gkids (fun t => gth false k t.f0 t.f1 t.f2) (kids.drop i) = some rs ∧ us ++ rs = zs ∧ GW w0 wr bw bi bl 56 (xs ++ us) ∧ TF W1 wr bl)) (fun v12 _ => kids.length - (intOf v12).toNat)
    case atStart => exact ⟨0, [], zs, Nat.zero_le _, rfl, Lib.hid ⟨HZ.out, rfl, by rw [List.append_nil]; exact HG1.out, TF.refl _ _⟩⟩
    case round =>
      obtain ⟨i, us, rs, hi, rfl, HI⟩ := hrel
      by_cases hlt : i < kids.length
      · obtain ⟨ad, B2, d2, e, e0, e1, e2, hd2, hC2⟩ := at_T27 HC.out (i : Int) (by omega) (by omega)
        subst e
        rw [Int.toNat_natCast] at e0 e1 e2
        have hb0 := HI.out.2.2.1.bel
        replace e0 := pw_cell_below hb0 e0
        replace e1 := pw_cell_below hb0 e1
        replace e2 := pw_cell_below hb0 e2
        have HC2 := Lib.hid (And.intro hC2 hd2)
        clear hb0 hC2 hd2
        have p2 : 0 ≤ (i : Int) := by omega
        have p3 : (i : Int) < (kids.length : Int) := by omega
        go_upto_region 4 with (fail)
        obtain ⟨W2, hW2⟩ : ∃ W2, W2 = wr.alloc (.cells #[.int .i64 (rd_T27 kids i).f0, .int .i64 (rd_T27 kids i).f1, .slice B2 (rd_T27 kids i).f2.length d2] 27) := ⟨_, rfl⟩
        have hb2 : Below wr.heap.size wr W2 := by rw [hW2]; exact below_alloc (Below.refl _ _) _
        have hn2 : W2.heap[wr.heap.size]? = some (.cells #[.int .i64 (rd_T27 kids i).f0, .int .i64 (rd_T27 kids i).f1, .slice B2 (rd_T27 kids i).f2.length d2] 27 (0, 0)) := by rw [hW2]; exact blk_new wr _
        rw [← hW2]
        clear hW2
        obtain ⟨v, g1, g2, g3, g4, g5, g6⟩ := GW_below HI.out.2.2.1 hb2
        have c_w := (blk_cell g1 0).trans rfl
        have c_0 : W2.cell? ⟨wr.heap.size, 0, none⟩ = some (.int .i64 (rd_T27 kids i).f0) := (blk_cell hn2 0).trans rfl
        have c_1 : W2.cell? ⟨wr.heap.size, 1, none⟩ = some (.int .i64 (rd_T27 kids i).f1) := (blk_cell hn2 1).trans rfl
        have c_2 : W2.cell? ⟨wr.heap.size, 2, none⟩ = some (.slice B2 (rd_T27 kids i).f2.length d2) := (blk_cell hn2 2).trans rfl
        have HG2 := Lib.hid (GW_below HI.out.2.2.1 hb2)
        have HB2 := Lib.hid hb2
        clear g1 g2 g3 g4 g5 g6 hn2 hb2
        have hdr : kids.drop i = rd_T27 kids i :: kids.drop (i + 1) := by rw [List.drop_eq_getElem_cons hlt]; simp [rd_T27, hlt]
        have h0 := HI.out.1
        rw [hdr] at h0
        unfold gkids at h0
        obtain ⟨x, hx, h0⟩ := Option.bind_eq_some_iff.1 h0
        obtain ⟨y, hy, h0⟩ := Option.bind_eq_some_iff.1 h0
        injection h0 with h0
        have hlen : ((xs ++ us) ++ x).length ≤ 1000000 := by
          have h1 := HL.out
          have h2 := HI.out.2.1
          rw [← HY.out, ← h2, ← h0] at h1
          simp at h1 ⊢
          omega
        have HX := Lib.hid (And.intro hx (And.intro hy h0))
        have HLEN := Lib.hid hlen
        clear hx hy h0 hdr hlen
        go_wp2_with (go_at_call 102; refine (IH.out w0 bw bi bl (rd_T27 kids i).f0 (rd_T27 kids i).f1 B2 d2 (rd_T27 kids i).f2 W2 (xs ++ us) x HC2.out.1 HG2.out HX.out.1 HLEN.out).mono ?_; rintro e W3 ⟨rfl, hg3, ht3⟩; have H3 := Lib.hid (And.intro hg3 ht3); clear hg3 ht3)
        go_roundw
        case rel =>
          refine ⟨i + 1, us ++ x, y, by omega, by go_num, Lib.hid ⟨HX.out.2.1, ?_, ?_, ?_⟩⟩
          · rw [List.append_assoc, HX.out.2.2]; exact HI.out.2.1
          · rw [← List.append_assoc]; exact H3.out.1
          · exact HI.out.2.2.2.trans ((TF.of_below HB2.out bl).trans H3.out.2)
        case measure => simp [intOf]; omega
      · have hik : i = kids.length := by omega
        subst hik
        have h0 := HI.out.1
        rw [List.drop_length] at h0
        have hrs : rs = [] := by unfold gkids at h0; injection h0 with h0; exact h0.symm
        have hus : us = zs := by have := HI.out.2.1; rw [hrs, List.append_nil] at this; exact this
        subst hus
        obtain ⟨v1, _, _, q3, _, _, _⟩ := HG1.out
        have hne : bt ≠ bl := blk_ne HT1.out q3 (by decide)
        have gt := HI.out.2.2.2 bt _ 27 HT1.out (by decide) hne
        obtain ⟨v, g1, g2, g3, g4, g5, g6⟩ := HI.out.2.2.1
        have c_i : wr.cell? ⟨bi, 0, none⟩ = some (.func (.func 56) #[] #[]) := (blk_cell g2 0).trans rfl
        have c_0 : wr.cell? ⟨bt, 0, none⟩ = some (.int .i64 s) := (blk_cell gt 0).trans rfl
        have c_1 : wr.cell? ⟨bt, 1, none⟩ = some (.int .i64 lf) := (blk_cell gt 1).trans rfl
        have c_2 : wr.cell? ⟨bt, 2, none⟩ = some (.slice A kids.length c) := (blk_cell gt 2).trans rfl
        have HF := Lib.hid (TF.trans (TF.of_below HB1.out bl) HI.out.2.2.2)
        have HGI := Lib.hid (And.intro g1 (And.intro g2 (And.intro g3 (And.intro g4 (And.intro g5 g6)))))
        clear g1 g2 g3 g4 g5 g6 q3 gt h0
        have hlen : (xs ++ us).length ≤ 1000000 := by
          have h1 := HL.out
          rw [← HY.out] at h1
          simp at h1 ⊢
          omega
        obtain ⟨i3, hi3, hz30, hz31, hz32⟩ := info_parts kt_int2
        by_cases hs : s < 0
        · have hd : decide (s < 0) = true := decide_eq_true hs
          have HD := Lib.hid hd
          clear hd
          go_wp2_with (first | (go_at_call 56; refine (is56_any s lf _ _).mono ?_; rintro e W4 ⟨rfl, hb4⟩; rw [HD.out]; have c_l : W4.cell? ⟨bl, 0, none⟩ = some v := (blk_cell (blk_below HGI.out.2.2.1 hb4) 0).trans rfl; have HB4 := Lib.hid hb4; clear hb4) | (at_builtin; go_must (refine wpList_append_own_at _ rfl _ _ 38 rfl w0.heap.size 3 i3 (.int .i64 0) 1 8 Try.underlying38 hi3 hz30 hz31 hz32 rfl (by decide) v (xs ++ us).length ((xs ++ us).map (Value.int .i64)) rfl (own_alloc (own_move HGI.out.2.2.2.2.1 (fun k hk => HB4.out.block k (own_lt HGI.out.2.2.2.2.1 k hk))) _) ⟨W4.heap.size, 0, none⟩ 1 1 [.int .i64 lf] rfl rfl ?c1 ?c2 ?c3 ?c4 ?c5 ?_)))
          case c1 =>
            intro j u hj
            match j, hj with
            | 0, hj => simp at hj; subst hj; simp [Addr.add]
          case c2 => intro u hu; simp at hu; subst hu; rfl
          case c3 => unfold maxLen; omega
          case c4 => omega
          case c5 => have := HGI.out.2.2.2.2.2.size; have := HB4.out.size; simp; omega
          intro v' W5 hown hgr _ hat
          obtain ⟨gy, cy, rfl, _, _, _, _, _⟩ := own_formL hown (by omega)
          obtain ⟨hp1, hp2, hp3⟩ := GW_push (n := lf) (X := W4.alloc _) (blk_below HGI.out.1 HB4.out) (blk_below HGI.out.2.1 HB4.out) (blk_below HGI.out.2.2.1 HB4.out) HGI.out.2.2.2.1 (own_move HGI.out.2.2.2.2.1 (fun k hk => HB4.out.block k (own_lt HGI.out.2.2.2.2.1 k hk))) (below_step HGI.out.2.2.2.2.2 HB4.out) (below_alloc (Below.refl _ _) _) (by rw [List.map_append, List.length_append, List.append_assoc]; exact hown) hgr (by rcases hat with e | e; exact .inl e; exact .inr (by rw [e]; simp))
          have c_5 : W5.cell? ⟨bl, 0, none⟩ = some v := (blk_cell hp3 0).trans rfl
          have f_5 : W5.frozen? ⟨bl, 0, none⟩ = false := blk_frozen hp3 0
          have HP := Lib.hid (And.intro hp1 hp2)
          clear hp1 hp2 hp3 hown hgr hat
          go_wp2
          go_end0
          refine ⟨rfl, ?_, HF.out.trans ((TF.of_below HB4.out bl).trans HP.out.2)⟩
          have e : xs ++ ys = (xs ++ us) ++ [lf] := by
            rw [← HY.out]
            unfold own1
            simp [hs]
          rw [e]
          exact HP.out.1
        · have hd : decide (s < 0) = false := decide_eq_false hs
          have HD := Lib.hid hd
          clear hd
          go_wp2_with (go_at_call 56; refine (is56_any s lf _ _).mono ?_; rintro e W4 ⟨rfl, hb4⟩; rw [HD.out]; have HB4 := Lib.hid hb4; clear hb4)
          go_end0
          refine ⟨rfl, ?_, HF.out.trans (TF.of_below HB4.out bl)⟩
          have e : xs ++ ys = xs ++ us := by
            rw [← HY.out]
            unfold own1
            simp [hs]
          rw [e]
          exact GW_below HI.out.2.2.1 HB4.out

set_option linter.unusedSimpArgs false in
set_option maxHeartbeats 4000000 in
set_option maxRecDepth 100000 in
theorem walk57 (k : Nat) : ∀ (w0 : World) (bw bi bl : Nat) (s lf : Int) (A : Option Addr) (c : Nat) (kids : List S27) (W : World) (xs ys : List Int), Kd.C k27 w0 A kids.length kids → GW w0 W bw bi bl 57 xs → gth true k s lf kids = some ys → (xs ++ ys).length ≤ 1000000 →
    Calls Try.prog 102 #[.agg #[.int .i64 s, .int .i64 lf, .slice A kids.length c], .pointer (some ⟨bw, 0, none⟩), .pointer (some ⟨bi, 0, none⟩), .pointer (some ⟨bl, 0, none⟩)] W fun e W' => e = .returned (.tuple #[]) ∧ GW w0 W' bw bi bl 57 (xs ++ ys) ∧ TF W W' bl := by
  induction k with
  | zero =>
    intro w0 bw bi bl s lf A c kids W xs ys hC hG h hl
    cases h
  | succ k ih =>
    intro w0 bw bi bl s lf A c kids W xs ys hC hG h hl
    unfold gth at h
    obtain ⟨zs, hz, h⟩ := Option.bind_eq_some_iff.1 h
    injection h with h
    have hW1 : Below W.heap.size W (W.alloc (.cells #[.int .i64 s, .int .i64 lf, .slice A kids.length c] 27)) := below_alloc (Below.refl _ _) _
    have HT1 := Lib.hid (blk_new W (.cells #[.int .i64 s, .int .i64 lf, .slice A kids.length c] 27))
    have HG1 := Lib.hid (GW_below hG hW1)
    have HB1 := Lib.hid hW1
    have HC := Lib.hid hC
    have HZ := Lib.hid hz
    have HY := Lib.hid h
    have HL := Lib.hid hl
    have IH := Lib.hid ih
    clear hC hG h hz hl ih hW1
    go_enter Try.func102, Try.ntmps102
    go_wp2_with fail
    have kl : kids.length ≤ 9223372036854775807 := HC.out.2.1
    obtain ⟨W1, hW1⟩ : ∃ W1, W1 = (W.alloc (.cells #[.int .i64 s, .int .i64 lf, .slice A kids.length c] 27)) := ⟨_, rfl⟩
    rw [← hW1] at HT1 HG1 HB1 ⊢
    clear hW1
    obtain ⟨bt, hbt⟩ : ∃ bt, bt = W.heap.size := ⟨_, rfl⟩
    rw [← hbt] at HT1 ⊢
    clear hbt
    go_loopw [12] (fun v12 wr => ∃ (i : Nat) (us rs : List Int), i ≤ kids.length ∧ v12 = .int .i64 i ∧ Hid (gkids (fun t => gth true k t.f0 t.f1 t.f2) (kids.drop i) = some rs ∧ us ++ rs = zs ∧ GW w0 wr bw bi bl 57 (xs ++ us) ∧ TF W1 wr bl)) (fun v12 _ => kids.length - (intOf v12).toNat)
    case atStart => exact ⟨0, [], zs, Nat.zero_le _, rfl, Lib.hid ⟨HZ.out, rfl, by rw [List.append_nil]; exact HG1.out, TF.refl _ _⟩⟩
    case round =>
      obtain ⟨i, us, rs, hi, rfl, HI⟩ := hrel
      by_cases hlt : i < kids.length
      · obtain ⟨ad, B2, d2, e, e0, e1, e2, hd2, hC2⟩ := at_T27 HC.out (i : Int) (by omega) (by omega)
        subst e
        rw [Int.toNat_natCast] at e0 e1 e2
        have hb0 := HI.out.2.2.1.bel
        replace e0 := pw_cell_below hb0 e0
        replace e1 := pw_cell_below hb0 e1
        replace e2 := pw_cell_below hb0 e2
        have HC2 := Lib.hid (And.intro hC2 hd2)
        clear hb0 hC2 hd2
        have p2 : 0 ≤ (i : Int) := by omega
        have p3 : (i : Int) < (kids.length : Int) := by omega
        go_upto_region 4 with (fail)
        obtain ⟨W2, hW2⟩ : ∃ W2, W2 = wr.alloc (.cells #[.int .i64 (rd_T27 kids i).f0, .int .i64 (rd_T27 kids i).f1, .slice B2 (rd_T27 kids i).f2.length d2] 27) := ⟨_, rfl⟩
        have hb2 : Below wr.heap.size wr W2 := by rw [hW2]; exact below_alloc (Below.refl _ _) _
        have hn2 : W2.heap[wr.heap.size]? = some (.cells #[.int .i64 (rd_T27 kids i).f0, .int .i64 (rd_T27 kids i).f1, .slice B2 (rd_T27 kids i).f2.length d2] 27 (0, 0)) := by rw [hW2]; exact blk_new wr _
        rw [← hW2]
        clear hW2
        obtain ⟨v, g1, g2, g3, g4, g5, g6⟩ := GW_below HI.out.2.2.1 hb2
        have c_w := (blk_cell g1 0).trans rfl
        have c_0 : W2.cell? ⟨wr.heap.size, 0, none⟩ = some (.int .i64 (rd_T27 kids i).f0) := (blk_cell hn2 0).trans rfl
        have c_1 : W2.cell? ⟨wr.heap.size, 1, none⟩ = some (.int .i64 (rd_T27 kids i).f1) := (blk_cell hn2 1).trans rfl
        have c_2 : W2.cell? ⟨wr.heap.size, 2, none⟩ = some (.slice B2 (rd_T27 kids i).f2.length d2) := (blk_cell hn2 2).trans rfl
        have HG2 := Lib.hid (GW_below HI.out.2.2.1 hb2)
        have HB2 := Lib.hid hb2
        clear g1 g2 g3 g4 g5 g6 hn2 hb2
        have hdr : kids.drop i = rd_T27 kids i :: kids.drop (i + 1) := by rw [List.drop_eq_getElem_cons hlt]; simp [rd_T27, hlt]
        have h0 := HI.out.1
        rw [hdr] at h0
        unfold gkids at h0
        obtain ⟨x, hx, h0⟩ := Option.bind_eq_some_iff.1 h0
        obtain ⟨y, hy, h0⟩ := Option.bind_eq_some_iff.1 h0
        injection h0 with h0
        have hlen : ((xs ++ us) ++ x).length ≤ 1000000 := by
          have h1 := HL.out
          have h2 := HI.out.2.1
          rw [← HY.out, ← h2, ← h0] at h1
          simp at h1 ⊢
          omega
        have HX := Lib.hid (And.intro hx (And.intro hy h0))
        have HLEN := Lib.hid hlen
        clear hx hy h0 hdr hlen
        go_wp2_with (go_at_call 102; refine (IH.out w0 bw bi bl (rd_T27 kids i).f0 (rd_T27 kids i).f1 B2 d2 (rd_T27 kids i).f2 W2 (xs ++ us) x HC2.out.1 HG2.out HX.out.1 HLEN.out).mono ?_; rintro e W3 ⟨rfl, hg3, ht3⟩; have H3 := Lib.hid (And.intro hg3 ht3); clear hg3 ht3)
        go_roundw
        case rel =>
          refine ⟨i + 1, us ++ x, y, by omega, by go_num, Lib.hid ⟨HX.out.2.1, ?_, ?_, ?_⟩⟩
          · rw [List.append_assoc, HX.out.2.2]; exact HI.out.2.1
          · rw [← List.append_assoc]; exact H3.out.1
          · exact HI.out.2.2.2.trans ((TF.of_below HB2.out bl).trans H3.out.2)
        case measure => simp [intOf]; omega
      · have hik : i = kids.length := by omega
        subst hik
        have h0 := HI.out.1
        rw [List.drop_length] at h0
        have hrs : rs = [] := by unfold gkids at h0; injection h0 with h0; exact h0.symm
        have hus : us = zs := by have := HI.out.2.1; rw [hrs, List.append_nil] at this; exact this
        subst hus
        obtain ⟨v1, _, _, q3, _, _, _⟩ := HG1.out
        have hne : bt ≠ bl := blk_ne HT1.out q3 (by decide)
        have gt := HI.out.2.2.2 bt _ 27 HT1.out (by decide) hne
        obtain ⟨v, g1, g2, g3, g4, g5, g6⟩ := HI.out.2.2.1
        have c_i : wr.cell? ⟨bi, 0, none⟩ = some (.func (.func 57) #[] #[]) := (blk_cell g2 0).trans rfl
        have c_0 : wr.cell? ⟨bt, 0, none⟩ = some (.int .i64 s) := (blk_cell gt 0).trans rfl
        have c_1 : wr.cell? ⟨bt, 1, none⟩ = some (.int .i64 lf) := (blk_cell gt 1).trans rfl
        have c_2 : wr.cell? ⟨bt, 2, none⟩ = some (.slice A kids.length c) := (blk_cell gt 2).trans rfl
        have HF := Lib.hid (TF.trans (TF.of_below HB1.out bl) HI.out.2.2.2)
        have HGI := Lib.hid (And.intro g1 (And.intro g2 (And.intro g3 (And.intro g4 (And.intro g5 g6)))))
        clear g1 g2 g3 g4 g5 g6 q3 gt h0
        have hlen : (xs ++ us).length ≤ 1000000 := by
          have h1 := HL.out
          rw [← HY.out] at h1
          simp at h1 ⊢
          omega
        obtain ⟨i3, hi3, hz30, hz31, hz32⟩ := info_parts kt_int2
        by_cases hs : 0 ≤ s
        · have hd : decide (0 ≤ s) = true := decide_eq_true hs
          have HD := Lib.hid hd
          clear hd
          go_wp2_with (first | (go_at_call 57; refine (is57_any s lf _ _).mono ?_; rintro e W4 ⟨rfl, hb4⟩; rw [HD.out]; have c_l : W4.cell? ⟨bl, 0, none⟩ = some v := (blk_cell (blk_below HGI.out.2.2.1 hb4) 0).trans rfl; have HB4 := Lib.hid hb4; clear hb4) | (at_builtin; go_must (refine wpList_append_own_at _ rfl _ _ 38 rfl w0.heap.size 3 i3 (.int .i64 0) 1 8 Try.underlying38 hi3 hz30 hz31 hz32 rfl (by decide) v (xs ++ us).length ((xs ++ us).map (Value.int .i64)) rfl (own_alloc (own_move HGI.out.2.2.2.2.1 (fun k hk => HB4.out.block k (own_lt HGI.out.2.2.2.2.1 k hk))) _) ⟨W4.heap.size, 0, none⟩ 1 1 [.int .i64 s] rfl rfl ?c1 ?c2 ?c3 ?c4 ?c5 ?_)))
          case c1 =>
            intro j u hj
            match j, hj with
            | 0, hj => simp at hj; subst hj; simp [Addr.add]
          case c2 => intro u hu; simp at hu; subst hu; rfl
          case c3 => unfold maxLen; omega
          case c4 => omega
          case c5 => have := HGI.out.2.2.2.2.2.size; have := HB4.out.size; simp; omega
          intro v' W5 hown hgr _ hat
          obtain ⟨gy, cy, rfl, _, _, _, _, _⟩ := own_formL hown (by omega)
          obtain ⟨hp1, hp2, hp3⟩ := GW_push (n := s) (X := W4.alloc _) (blk_below HGI.out.1 HB4.out) (blk_below HGI.out.2.1 HB4.out) (blk_below HGI.out.2.2.1 HB4.out) HGI.out.2.2.2.1 (own_move HGI.out.2.2.2.2.1 (fun k hk => HB4.out.block k (own_lt HGI.out.2.2.2.2.1 k hk))) (below_step HGI.out.2.2.2.2.2 HB4.out) (below_alloc (Below.refl _ _) _) (by rw [List.map_append, List.length_append, List.append_assoc]; exact hown) hgr (by rcases hat with e | e; exact .inl e; exact .inr (by rw [e]; simp))
          have c_5 : W5.cell? ⟨bl, 0, none⟩ = some v := (blk_cell hp3 0).trans rfl
          have f_5 : W5.frozen? ⟨bl, 0, none⟩ = false := blk_frozen hp3 0
          have HP := Lib.hid (And.intro hp1 hp2)
          clear hp1 hp2 hp3 hown hgr hat
          go_wp2
          go_end0
          refine ⟨rfl, ?_, HF.out.trans ((TF.of_below HB4.out bl).trans HP.out.2)⟩
          have e : xs ++ ys = (xs ++ us) ++ [s] := by
            rw [← HY.out]
            unfold own1
            simp [hs]
          rw [e]
          exact HP.out.1
        · have hd : decide (0 ≤ s) = false := decide_eq_false hs
          have HD := Lib.hid hd
          clear hd
          go_wp2_with (go_at_call 57; refine (is57_any s lf _ _).mono ?_; rintro e W4 ⟨rfl, hb4⟩; rw [HD.out]; have HB4 := Lib.hid hb4; clear hb4)
          go_end0
          refine ⟨rfl, ?_, HF.out.trans (TF.of_below HB4.out bl)⟩
          have e : xs ++ ys = xs ++ us := by
            rw [← HY.out]
            unfold own1
            simp [hs]
          rw [e]
          exact GW_below HI.out.2.2.1 HB4.out

set_option linter.unusedSimpArgs false in
set_option maxHeartbeats 4000000 in
set_option maxRecDepth 100000 in
theorem gather56 (k : Nat) (s lf : Int) (A : Option Addr) (c : Nat) (kids : List S27) (w : World) (ys : List Int) (hC : Kd.C k27 w A kids.length kids) (h : gth false k s lf kids = some ys) (hl : ys.length ≤ 1000000) :
    Calls Try.prog 55 #[.agg #[.int .i64 s, .int .i64 lf, .slice A kids.length c], .func (.func 56) #[] #[]] w fun e w' => ∃ v : Value, e = .returned v ∧ w'.ownsRow w.heap.size 3 1 v ys.length (ys.map (Value.int .i64)) ∧ Below w.heap.size w w' := by
  have HC := Lib.hid hC
  have HH := Lib.hid (And.intro h hl)
  clear hC h hl
  obtain ⟨W0, hW0⟩ : ∃ W0, W0 = ((((w.alloc (.cells #[.int .i64 s, .int .i64 lf, .slice A kids.length c] 27)).alloc (.cells #[.func (.func 56) #[] #[]] 86)).alloc (.cells #[.slice none 0 0] 38)).alloc (.cells #[.nilFunc] 126)) := ⟨_, rfl⟩
  have hb0 : Below w.heap.size w W0 := by rw [hW0]; exact below_alloc (below_alloc (below_alloc (below_alloc (Below.refl _ _) _) _) _) _
  have ht : W0.heap[w.heap.size]? = some (.cells #[.int .i64 s, .int .i64 lf, .slice A kids.length c] 27 (0, 0)) := by rw [hW0]; exact blk_alloc (blk_alloc (blk_alloc (blk_new w _) _) _) _
  have hi : W0.heap[w.heap.size + 1]? = some (.cells #[.func (.func 56) #[] #[]] 86 (0, 0)) := by
    have := blk_alloc (blk_alloc (blk_new (w.alloc (.cells #[.int .i64 s, .int .i64 lf, .slice A kids.length c] 27)) (.cells #[.func (.func 56) #[] #[]] 86)) (.cells #[.slice none 0 0] 38)) (.cells #[.nilFunc] 126)
    rw [hW0]
    simpa using this
  have hl : W0.heap[w.heap.size + 1 + 1]? = some (.cells #[.slice none 0 0] 38 (0, 0)) := by
    have := blk_alloc (blk_new ((w.alloc (.cells #[.int .i64 s, .int .i64 lf, .slice A kids.length c] 27)).alloc (.cells #[.func (.func 56) #[] #[]] 86)) (.cells #[.slice none 0 0] 38)) (.cells #[.nilFunc] 126)
    rw [hW0]
    simpa using this
  have hw : W0.heap[w.heap.size + 1 + 1 + 1]? = some (.cells #[.nilFunc] 126 (0, 0)) := by
    have := blk_new (((w.alloc (.cells #[.int .i64 s, .int .i64 lf, .slice A kids.length c] 27)).alloc (.cells #[.func (.func 56) #[] #[]] 86)).alloc (.cells #[.slice none 0 0] 38)) (.cells #[.nilFunc] 126)
    rw [hW0]
    simpa using this
  have HW0 := Lib.hid hW0
  have HA := Lib.hid (And.intro hb0 (And.intro ht (And.intro hi (And.intro hl hw))))
  clear hW0 hb0 ht hi hl hw
  go_enter Try.func55, Try.ntmps55
  go_wp2_with fail
  rw [← HW0.out]
  have hst : (store ⟨w.heap.size + 1 + 1 + 1, 0, none⟩ (.func (.func 102) #[] #[.pointer (some ⟨w.heap.size + 1 + 1 + 1, 0, none⟩), .pointer (some ⟨w.heap.size + 1, 0, none⟩), .pointer (some ⟨w.heap.size + 1 + 1, 0, none⟩)])).run Try.prog W0 = .ok () (W0.setCell ⟨w.heap.size + 1 + 1 + 1, 0, none⟩ (.func (.func 102) #[] #[.pointer (some ⟨w.heap.size + 1 + 1 + 1, 0, none⟩), .pointer (some ⟨w.heap.size + 1, 0, none⟩), .pointer (some ⟨w.heap.size + 1 + 1, 0, none⟩)])) := by
    have c1 : W0.cell? ⟨w.heap.size + 1 + 1 + 1, 0, none⟩ = some .nilFunc := (blk_cell HA.out.2.2.2.2 0).trans rfl
    have c2 : W0.frozen? ⟨w.heap.size + 1 + 1 + 1, 0, none⟩ = false := blk_frozen HA.out.2.2.2.2 0
    exact (run_store Try.prog W0 _ _ _ rfl).trans (by simp [stored, c1, c2])
  rw [hst]
  have hG : GW w (W0.setCell ⟨w.heap.size + 1 + 1 + 1, 0, none⟩ (.func (.func 102) #[] #[.pointer (some ⟨w.heap.size + 1 + 1 + 1, 0, none⟩), .pointer (some ⟨w.heap.size + 1, 0, none⟩), .pointer (some ⟨w.heap.size + 1 + 1, 0, none⟩)])) (w.heap.size + 1 + 1 + 1) (w.heap.size + 1) (w.heap.size + 1 + 1) 56 [] :=
    ⟨.slice none 0 0, blk_set HA.out.2.2.2.2 0 _, blk_far HA.out.2.2.1 (show w.heap.size + 1 ≠ w.heap.size + 1 + 1 + 1 by omega) _, blk_far HA.out.2.2.2.1 (show w.heap.size + 1 + 1 ≠ w.heap.size + 1 + 1 + 1 by omega) _, by omega, own_nil _ _ _ _, below_set HA.out.1 (by omega)⟩
  have hT := blk_far HA.out.2.1 (p := ⟨w.heap.size + 1 + 1 + 1, 0, none⟩) (show w.heap.size ≠ w.heap.size + 1 + 1 + 1 by omega) (.func (.func 102) #[] #[.pointer (some ⟨w.heap.size + 1 + 1 + 1, 0, none⟩), .pointer (some ⟨w.heap.size + 1, 0, none⟩), .pointer (some ⟨w.heap.size + 1 + 1, 0, none⟩)])
  generalize (W0.setCell ⟨w.heap.size + 1 + 1 + 1, 0, none⟩ (.func (.func 102) #[] #[.pointer (some ⟨w.heap.size + 1 + 1 + 1, 0, none⟩), .pointer (some ⟨w.heap.size + 1, 0, none⟩), .pointer (some ⟨w.heap.size + 1 + 1, 0, none⟩)])) = W1 at hG hT ⊢
  have HG := Lib.hid hG
  obtain ⟨v0, g1, _, _, _, _, _⟩ := hG
  have c_w := (blk_cell g1 0).trans rfl
  have c_0 : W1.cell? ⟨w.heap.size, 0, none⟩ = some (.int .i64 s) := (blk_cell hT 0).trans rfl
  have c_1 : W1.cell? ⟨w.heap.size, 1, none⟩ = some (.int .i64 lf) := (blk_cell hT 1).trans rfl
  have c_2 : W1.cell? ⟨w.heap.size, 2, none⟩ = some (.slice A kids.length c) := (blk_cell hT 2).trans rfl
  clear g1 hT hst HW0 HA
  go_simp
  go_wp2_with (go_at_call 102; refine (walk56 k w _ _ _ s lf A c kids W1 [] ys HC.out HG.out HH.out.1 (by simpa using HH.out.2)).mono ?_; rintro e W2 ⟨rfl, hg2, _⟩; obtain ⟨v, h1, h2, h3, h4, h5, h6⟩ := hg2; have c_l : W2.cell? ⟨w.heap.size + 1 + 1, 0, none⟩ = some v := (blk_cell h3 0).trans rfl; have HE := Lib.hid (And.intro h5 h6); clear h1 h2 h3 h4 h5 h6)
  go_ret
  exact ⟨_, rfl, by simpa using HE.out.1, HE.out.2⟩

set_option linter.unusedSimpArgs false in
set_option maxHeartbeats 4000000 in
set_option maxRecDepth 100000 in
theorem gather57 (k : Nat) (s lf : Int) (A : Option Addr) (c : Nat) (kids : List S27) (w : World) (ys : List Int) (hC : Kd.C k27 w A kids.length kids) (h : gth true k s lf kids = some ys) (hl : ys.length ≤ 1000000) :
    Calls Try.prog 55 #[.agg #[.int .i64 s, .int .i64 lf, .slice A kids.length c], .func (.func 57) #[] #[]] w fun e w' => ∃ v : Value, e = .returned v ∧ w'.ownsRow w.heap.size 3 1 v ys.length (ys.map (Value.int .i64)) ∧ Below w.heap.size w w' := by
  have HC := Lib.hid hC
  have HH := Lib.hid (And.intro h hl)
  clear hC h hl
  obtain ⟨W0, hW0⟩ : ∃ W0, W0 = ((((w.alloc (.cells #[.int .i64 s, .int .i64 lf, .slice A kids.length c] 27)).alloc (.cells #[.func (.func 57) #[] #[]] 86)).alloc (.cells #[.slice none 0 0] 38)).alloc (.cells #[.nilFunc] 126)) := ⟨_, rfl⟩
  have hb0 : Below w.heap.size w W0 := by rw [hW0]; exact below_alloc (below_alloc (below_alloc (below_alloc (Below.refl _ _) _) _) _) _
  have ht : W0.heap[w.heap.size]? = some (.cells #[.int .i64 s, .int .i64 lf, .slice A kids.length c] 27 (0, 0)) := by rw [hW0]; exact blk_alloc (blk_alloc (blk_alloc (blk_new w _) _) _) _
  have hi : W0.heap[w.heap.size + 1]? = some (.cells #[.func (.func 57) #[] #[]] 86 (0, 0)) := by
    have := blk_alloc (blk_alloc (blk_new (w.alloc (.cells #[.int .i64 s, .int .i64 lf, .slice A kids.length c] 27)) (.cells #[.func (.func 57) #[] #[]] 86)) (.cells #[.slice none 0 0] 38)) (.cells #[.nilFunc] 126)
    rw [hW0]
    simpa using this
  have hl : W0.heap[w.heap.size + 1 + 1]? = some (.cells #[.slice none 0 0] 38 (0, 0)) := by
    have := blk_alloc (blk_new ((w.alloc (.cells #[.int .i64 s, .int .i64 lf, .slice A kids.length c] 27)).alloc (.cells #[.func (.func 57) #[] #[]] 86)) (.cells #[.slice none 0 0] 38)) (.cells #[.nilFunc] 126)
    rw [hW0]
    simpa using this
  have hw : W0.heap[w.heap.size + 1 + 1 + 1]? = some (.cells #[.nilFunc] 126 (0, 0)) := by
    have := blk_new (((w.alloc (.cells #[.int .i64 s, .int .i64 lf, .slice A kids.length c] 27)).alloc (.cells #[.func (.func 57) #[] #[]] 86)).alloc (.cells #[.slice none 0 0] 38)) (.cells #[.nilFunc] 126)
    rw [hW0]
    simpa using this
  have HW0 := Lib.hid hW0
  have HA := Lib.hid (And.intro hb0 (And.intro ht (And.intro hi (And.intro hl hw))))
  clear hW0 hb0 ht hi hl hw
  go_enter Try.func55, Try.ntmps55
  go_wp2_with fail
  rw [← HW0.out]
  have hst : (store ⟨w.heap.size + 1 + 1 + 1, 0, none⟩ (.func (.func 102) #[] #[.pointer (some ⟨w.heap.size + 1 + 1 + 1, 0, none⟩), .pointer (some ⟨w.heap.size + 1, 0, none⟩), .pointer (some ⟨w.heap.size + 1 + 1, 0, none⟩)])).run Try.prog W0 = .ok () (W0.setCell ⟨w.heap.size + 1 + 1 + 1, 0, none⟩ (.func (.func 102) #[] #[.pointer (some ⟨w.heap.size + 1 + 1 + 1, 0, none⟩), .pointer (some ⟨w.heap.size + 1, 0, none⟩), .pointer (some ⟨w.heap.size + 1 + 1, 0, none⟩)])) := by
    have c1 : W0.cell? ⟨w.heap.size + 1 + 1 + 1, 0, none⟩ = some .nilFunc := (blk_cell HA.out.2.2.2.2 0).trans rfl
    have c2 : W0.frozen? ⟨w.heap.size + 1 + 1 + 1, 0, none⟩ = false := blk_frozen HA.out.2.2.2.2 0
    exact (run_store Try.prog W0 _ _ _ rfl).trans (by simp [stored, c1, c2])
  rw [hst]
  have hG : GW w (W0.setCell ⟨w.heap.size + 1 + 1 + 1, 0, none⟩ (.func (.func 102) #[] #[.pointer (some ⟨w.heap.size + 1 + 1 + 1, 0, none⟩), .pointer (some ⟨w.heap.size + 1, 0, none⟩), .pointer (some ⟨w.heap.size + 1 + 1, 0, none⟩)])) (w.heap.size + 1 + 1 + 1) (w.heap.size + 1) (w.heap.size + 1 + 1) 57 [] :=
    ⟨.slice none 0 0, blk_set HA.out.2.2.2.2 0 _, blk_far HA.out.2.2.1 (show w.heap.size + 1 ≠ w.heap.size + 1 + 1 + 1 by omega) _, blk_far HA.out.2.2.2.1 (show w.heap.size + 1 + 1 ≠ w.heap.size + 1 + 1 + 1 by omega) _, by omega, own_nil _ _ _ _, below_set HA.out.1 (by omega)⟩
  have hT := blk_far HA.out.2.1 (p := ⟨w.heap.size + 1 + 1 + 1, 0, none⟩) (show w.heap.size ≠ w.heap.size + 1 + 1 + 1 by omega) (.func (.func 102) #[] #[.pointer (some ⟨w.heap.size + 1 + 1 + 1, 0, none⟩), .pointer (some ⟨w.heap.size + 1, 0, none⟩), .pointer (some ⟨w.heap.size + 1 + 1, 0, none⟩)])
  generalize (W0.setCell ⟨w.heap.size + 1 + 1 + 1, 0, none⟩ (.func (.func 102) #[] #[.pointer (some ⟨w.heap.size + 1 + 1 + 1, 0, none⟩), .pointer (some ⟨w.heap.size + 1, 0, none⟩), .pointer (some ⟨w.heap.size + 1 + 1, 0, none⟩)])) = W1 at hG hT ⊢
  have HG := Lib.hid hG
  obtain ⟨v0, g1, _, _, _, _, _⟩ := hG
  have c_w := (blk_cell g1 0).trans rfl
  have c_0 : W1.cell? ⟨w.heap.size, 0, none⟩ = some (.int .i64 s) := (blk_cell hT 0).trans rfl
  have c_1 : W1.cell? ⟨w.heap.size, 1, none⟩ = some (.int .i64 lf) := (blk_cell hT 1).trans rfl
  have c_2 : W1.cell? ⟨w.heap.size, 2, none⟩ = some (.slice A kids.length c) := (blk_cell hT 2).trans rfl
  clear g1 hT hst HW0 HA
  go_simp
  go_wp2_with (go_at_call 102; refine (walk57 k w _ _ _ s lf A c kids W1 [] ys HC.out HG.out HH.out.1 (by simpa using HH.out.2)).mono ?_; rintro e W2 ⟨rfl, hg2, _⟩; obtain ⟨v, h1, h2, h3, h4, h5, h6⟩ := hg2; have c_l : W2.cell? ⟨w.heap.size + 1 + 1, 0, none⟩ = some v := (blk_cell h3 0).trans rfl; have HE := Lib.hid (And.intro h5 h6); clear h1 h2 h3 h4 h5 h6)
  go_ret
  exact ⟨_, rfl, by simpa using HE.out.1, HE.out.2⟩

def group_Leaves.f (k : Nat) (a0_0 : Int) (a0_1 : Int) (l0_2 : List S27) : Option (List Int) := (gth false k a0_0 a0_1 l0_2).bind fun ys => if ys.length ≤ 1000000 then some ys else none
theorem group_Leaves.mono : ∀ a0 a1 a2 k, LeO (group_Leaves.f k a0 a1 a2) (group_Leaves.f (k + 1) a0 a1 a2) := fun a0 a1 a2 k => LeO.bind (gth_mono false k a0 a1 a2) fun _ => LeO.refl _
set_option linter.unusedSimpArgs false in
set_option maxHeartbeats 4000000 in
set_option maxRecDepth 100000 in
theorem group_Leaves.calls (k : Nat) : ∀ (a0_0 : Int) (a0_1 : Int) (A0_2 : Option Addr) (c0_2 : Nat) (l0_2 : List S27) (r : List Int) (w : World) (hr0_2 : Kd.C k27 w A0_2 l0_2.length l0_2) (hc0_2 : l0_2.length ≤ c0_2) (h : group_Leaves.f k a0_0 a0_1 l0_2 = some r),
    Calls Try.prog 19 #[.agg #[.int .i64 a0_0, .int .i64 a0_1, .slice A0_2 l0_2.length c0_2]] w fun e w' => ∃ v0_ : Value, e = .returned (v0_) ∧ Kd.R (Kd.int .i64) 3 w' w.heap.size (fun _ => True) v0_ r ∧ Below w.heap.size w w' := by
  intro s lf A c kids r w hC _ h
  unfold group_Leaves.f at h
  obtain ⟨ys, hy, h⟩ := Option.bind_eq_some_iff.1 h
  split at h
  case isFalse => cases h
  rename_i hl
  injection h with h
  subst h
  have hb1 : Below w.heap.size w (w.alloc (.cells #[.int .i64 s, .int .i64 lf, .slice A kids.length c] 27)) := below_alloc (Below.refl _ _) _
  have hsz : (w.alloc (.cells #[.int .i64 s, .int .i64 lf, .slice A kids.length c] 27)).heap.size = w.heap.size + 1 := by simp
  have HC := Lib.hid (Kd.C_below hC hb1)
  have HH := Lib.hid (And.intro hy (And.intro hl (And.intro hb1 hsz)))
  clear hC hy hl hb1 hsz
  go_enter Try.func19, Try.ntmps19
  go_wp2_with (go_at_call 55; refine (gather56 k s lf A c kids _ ys HC.out HH.out.1 HH.out.2.1).mono ?_; rintro e W2 ⟨v, rfl, hown, hb⟩; have HE := Lib.hid (And.intro hown hb); clear hown hb)
  go_ret
  have h2 : Below w.heap.size w W2 := below_then HH.out.2.2.1 (by have := HH.out.2.2.2; omega) HE.out.2
  refine ⟨_, rfl, ?_, h2⟩
  exact Kd.R_of_own (own_weaken HE.out.1 (by have := HH.out.2.2.2; omega)) (fun _ _ => trivial)

def group_Signs.f (k : Nat) (a0_0 : Int) (a0_1 : Int) (l0_2 : List S27) : Option (List Int) := (gth true k a0_0 a0_1 l0_2).bind fun ys => if ys.length ≤ 1000000 then some ys else none
theorem group_Signs.mono : ∀ a0 a1 a2 k, LeO (group_Signs.f k a0 a1 a2) (group_Signs.f (k + 1) a0 a1 a2) := fun a0 a1 a2 k => LeO.bind (gth_mono true k a0 a1 a2) fun _ => LeO.refl _
set_option linter.unusedSimpArgs false in
set_option maxHeartbeats 4000000 in
set_option maxRecDepth 100000 in
theorem group_Signs.calls (k : Nat) : ∀ (a0_0 : Int) (a0_1 : Int) (A0_2 : Option Addr) (c0_2 : Nat) (l0_2 : List S27) (r : List Int) (w : World) (hr0_2 : Kd.C k27 w A0_2 l0_2.length l0_2) (hc0_2 : l0_2.length ≤ c0_2) (h : group_Signs.f k a0_0 a0_1 l0_2 = some r),
    Calls Try.prog 20 #[.agg #[.int .i64 a0_0, .int .i64 a0_1, .slice A0_2 l0_2.length c0_2]] w fun e w' => ∃ v0_ : Value, e = .returned (v0_) ∧ Kd.R (Kd.int .i64) 3 w' w.heap.size (fun _ => True) v0_ r ∧ Below w.heap.size w w' := by
  intro s lf A c kids r w hC _ h
  unfold group_Signs.f at h
  obtain ⟨ys, hy, h⟩ := Option.bind_eq_some_iff.1 h
  split at h
  case isFalse => cases h
  rename_i hl
  injection h with h
  subst h
  have hb1 : Below w.heap.size w (w.alloc (.cells #[.int .i64 s, .int .i64 lf, .slice A kids.length c] 27)) := below_alloc (Below.refl _ _) _
  have hsz : (w.alloc (.cells #[.int .i64 s, .int .i64 lf, .slice A kids.length c] 27)).heap.size = w.heap.size + 1 := by simp
  have HC := Lib.hid (Kd.C_below hC hb1)
  have HH := Lib.hid (And.intro hy (And.intro hl (And.intro hb1 hsz)))
  clear hC hy hl hb1 hsz
  go_enter Try.func20, Try.ntmps20
  go_wp2_with (go_at_call 55; refine (gather57 k s lf A c kids _ ys HC.out HH.out.1 HH.out.2.1).mono ?_; rintro e W2 ⟨v, rfl, hown, hb⟩; have HE := Lib.hid (And.intro hown hb); clear hown hb)
  go_ret
  have h2 : Below w.heap.size w W2 := below_then HH.out.2.2.1 (by have := HH.out.2.2.2; omega) HE.out.2
  refine ⟨_, rfl, ?_, h2⟩
  exact Kd.R_of_own (own_weaken HE.out.1 (by have := HH.out.2.2.2; omega)) (fun _ _ => trivial)

end Go.Proofs.Ytjnhdoaceegkoaa.PGw
