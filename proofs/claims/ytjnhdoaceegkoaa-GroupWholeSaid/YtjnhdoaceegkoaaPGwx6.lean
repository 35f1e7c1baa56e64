-- WRITTEN BY gprint.py, a program of this session, out of the translation (over the kit's print.py): Lean checks it.
import Derived.Test.YtjnhdoaceegkoaaPGwx0
import Derived.Test.YtjnhdoaceegkoaaPGwx5
import Derived.WalkLawsBesides
import Derived.LoopTactic
import Derived.ProofKit
import Derived.Lib.Hide
import Derived.Deep.DeepCutAuto
import Derived.IntWalk
import Derived.WalkMore
import Derived.Deep.DeepMust
namespace Go.Proofs.Ytjnhdoaceegkoaa.PGw
open Go.RowKit Go.Proofs.YtjnhdoaceegkoaaW.PrintWords Go.Proofs.YtjnhdoaceegkoaaW.PrintLast Go.Proofs.YtjnhdoaceegkoaaW.PrintMore
attribute [local go_sem] max2_int min2_int max_two min_two max_three min_three max_four min_four   -- for this text's walks alone
set_option linter.unusedVariables false
set_option linter.unusedSimpArgs false

--@given oriel/group.Text making=1 rounds=1
--@uses oriel/group.at
--@import Derived.WalkLawsBesides
--@import Derived.LoopTactic
--@import Derived.ProofKit
--@import Derived.Lib.Hide
--@import Derived.Deep.DeepCutAuto
--@import Derived.IntWalk
--@import Derived.WalkMore
--@import Derived.Deep.DeepMust
/-! ### group_Text: group.Text with its closure, by hand -/

/-- a kid's text -/
def txtKid (F : Int → Int → List S27 → Option ByteArray) (kids : List S27) (i : Nat) : Option ByteArray := if kids.length ≤ i then some ⟨#[95]⟩ else F (kids.getD i z27).f0 (kids.getD i z27).f1 (kids.getD i z27).f2
def group_Text.f : Nat → Int → Int → List S27 → List ByteArray → List ByteArray → Option ByteArray
  | 0, _, _, _, _, _ => none
  | k + 1, a0_0, a0_1, l0_2, l1, l2 => if a0_0 < 0 then group_at.f l1 a0_1 else
    (txtKid (fun a b c => group_Text.f k a b c l1 l2) l0_2 0).bind fun x0 => (group_at.f l2 a0_0).bind fun y => (txtKid (fun a b c => group_Text.f k a b c l1 l2) l0_2 1).bind fun x1 =>
      if x0.size + y.size + x1.size + 4 ≤ 9223372036854775807 then some ((((((⟨#[40]⟩ : ByteArray) ++ x0) ++ (⟨#[32]⟩ : ByteArray)) ++ y) ++ (⟨#[32]⟩ : ByteArray)) ++ x1 ++ (⟨#[41]⟩ : ByteArray)) else none
theorem txtKid_mono {F G : Int → Int → List S27 → Option ByteArray} (h : ∀ a b c, LeO (F a b c) (G a b c)) (kids : List S27) (i : Nat) : LeO (txtKid F kids i) (txtKid G kids i) := by
  unfold txtKid
  exact LeO.ite (LeO.refl _) (h _ _ _)
theorem group_Text.mono : ∀ a0 a1 a2 a3 a4 k, LeO (group_Text.f k a0 a1 a2 a3 a4) (group_Text.f (k + 1) a0 a1 a2 a3 a4) := by
  intro a0 a1 a2 a3 a4 k
  induction k generalizing a0 a1 a2 with
  | zero => exact LeO.none _
  | succ k ih =>
    unfold group_Text.f
    refine LeO.ite (LeO.refl _) (LeO.bind (txtKid_mono (fun a b c => ih a b c) _ _) fun x0 => LeO.bind (LeO.refl _) fun y => LeO.bind (txtKid_mono (fun a b c => ih a b c) _ _) fun x1 => LeO.refl _)
section
variable {P : Program} {ops : Array Oper} {Q : Exit → Act → World → Prop}
/-- a closure's call in a region that draws -/
theorem goesC_ {oi : Oper} {N : Option Tmp} {a : Act} {w : World} {K : Act → World → Prop} {f : FuncId} {fn : Func} {ag : Array Operand} {ts : Array TypeId} {s : Operand} (hf : P.funcs[f]? = some fn) (hname : (fn.name == "runtime.NumGoroutine") = false) (hb : fn.body.isSome = true) (args0 cap args : Array Value) (hcat : args0 ++ cap = args)
    (hw : Region.wanted oi (yielded ops a.tmps) = true) (hN : oi.dst = N) (hop : oi.op = .call { callee := .value s, args := ag, argTypes := ts }) (hs : a.eval s = .func (.func f) #[] cap) (hargs : ag.map a.eval = args0)
    (h : Calls P f args w fun e w' => ∃ v, e = .returned v ∧ K (a.put N v) w') : if Region.wanted oi (yielded ops a.tmps) = true then Oper.wp P oi a w K Q else K (a.put N undef) w := by
  subst hcat
  refine call_ f (args0 ++ cap) hw hN ?_ h
  have he := enters_ hf hname hb (args0 ++ cap) w
  unfold execOp
  simp [hop, resolve, Deferred.ofValue, invoke, hs, hargs, he]
end
def gkid.T3 : Bool × List (List Nat × List Nat) := (true, [([], []), ([0], [0]), ([], []), ([1, 2], [1, 2]), ([3], [3]), ([], []), ([], []), ([4, 5, 6], [4, 5, 6]), ([7, 7, 0, 1, 2, 3, 4, 5, 6, 7], [7])])
def gkid.B3 : List Nat := [0, 1, 0, 7, 15, 0, 0, 127, 255]
theorem gkid.tab3 : rtab .any (opsOf Try.f87 3) = gkid.T3 := by kernel_rfl
theorem gkid.bits3 : waitsOk gkid.T3.2 gkid.B3 = true := by kernel_rfl
def gtext.T4 : Bool × List (List Nat × List Nat) := (true, [([], []), ([0], [0]), ([1], [1]), ([2], [2]), ([], []), ([], []), ([5], [5]), ([4, 6, 1], [4, 6]), ([3, 7], [3, 7]), ([8], [8]), ([], []), ([10, 7], [10]), ([9, 11], [9, 11]), ([12], [12]), ([13, 11, 0, 1, 2, 3, 4, 5, 6, 7, 8, 9, 10, 11, 12, 13], [13])])
def gtext.B4 : List Nat := [0, 1, 3, 7, 0, 0, 32, 115, 255, 511, 0, 1267, 4095, 8191, 16383]
theorem gtext.tab4 : rtab .any (opsOf Try.f48 4) = gtext.T4 := by kernel_rfl
theorem gtext.bits4 : waitsOk gtext.T4.2 gtext.B4 = true := by kernel_rfl
set_option linter.unusedSimpArgs false in
set_option maxHeartbeats 4000000 in
set_option maxRecDepth 100000 in
theorem kid_any (k : Nat) (A1 : Option Addr) (c1 : Nat) (l1 : List ByteArray) (A2 : Option Addr) (c2 : Nat) (l2 : List ByteArray) (hc1 : l1.length ≤ c1) (hc2 : l2.length ≤ c2)
    (ih : ∀ (a0_0 : Int) (a0_1 : Int) (A0_2 : Option Addr) (c0_2 : Nat) (l0_2 : List S27) (r : ByteArray) (w : World), Kd.C k27 w A0_2 l0_2.length l0_2 → l0_2.length ≤ c0_2 → Kd.C Kd.string w A1 l1.length l1 → Kd.C Kd.string w A2 l2.length l2 → group_Text.f k a0_0 a0_1 l0_2 l1 l2 = some r →
      Calls Try.prog 48 #[.agg #[.int .i64 a0_0, .int .i64 a0_1, .slice A0_2 l0_2.length c0_2], .slice A1 l1.length c1, .slice A2 l2.length c2] w fun e w' => e = .returned (.string r) ∧ Below w.heap.size w w')
    (i : Nat) (hi : i < 1000) (s lf : Int) (A : Option Addr) (c : Nat) (kids : List S27) (bt bl bs : Nat) (x : ByteArray) (W : World)
    (hbt : W.heap[bt]? = some (.cells #[.int .i64 s, .int .i64 lf, .slice A kids.length c] 27 (0, 0))) (hbl : W.heap[bl]? = some (.cells #[.slice A1 l1.length c1] 22 (0, 0))) (hbs : W.heap[bs]? = some (.cells #[.slice A2 l2.length c2] 22 (0, 0)))
    (hk : Kd.C k27 W A kids.length kids) (h1 : Kd.C Kd.string W A1 l1.length l1) (h2 : Kd.C Kd.string W A2 l2.length l2) (hx : txtKid (fun a b c => group_Text.f k a b c l1 l2) kids i = some x) :
    Calls Try.prog 87 #[.int .i64 i, .pointer (some ⟨bt, 0, none⟩), .pointer (some ⟨bl, 0, none⟩), .pointer (some ⟨bs, 0, none⟩)] W fun e w' => e = .returned (.string x) ∧ Below W.heap.size W w' := by
  have t2 : W.cell? ⟨bt, 2, none⟩ = some (.slice A kids.length c) := (blk_cell hbt 2).trans rfl
  have tl : W.cell? ⟨bl, 0, none⟩ = some (.slice A1 l1.length c1) := (blk_cell hbl 0).trans rfl
  have ts : W.cell? ⟨bs, 0, none⟩ = some (.slice A2 l2.length c2) := (blk_cell hbs 0).trans rfl
  have H12 := Lib.hid (And.intro h1 h2)
  have HK := Lib.hid hk
  have HX := Lib.hid hx
  have IH := Lib.hid ih
  clear h1 h2 hk hx hbt hbl hbs ih
  go_enter Try.func87, Try.ntmps87
  by_cases hlt : i < kids.length
  · obtain ⟨ad, B2, d2, e, e0, e1, e2, hd2, hC2⟩ := at_T27 HK.out (i : Int) (by omega) (by omega)
    subst e
    rw [Int.toNat_natCast] at e0 e1 e2
    have p1 : ¬ ((kids.length : Int) ≤ (i : Int)) := by omega
    have p2 : 0 ≤ (i : Int) := by omega
    have p3 : (i : Int) < (kids.length : Int) := by omega
    go_wp2
    refine start_ (n := 9) (S := fun w' => w'.cell? ⟨bt, 2, none⟩ = some (.slice (some ad) kids.length c) ∧ w'.cell? (ad.add (i * 3)) = some (.int .i64 (rd_T27 kids i).f0) ∧ w'.cell? ⟨(ad.add (i * 3)).block, (ad.add (i * 3)).off + 1, none⟩ = some (.int .i64 (rd_T27 kids i).f1) ∧ w'.cell? ⟨(ad.add (i * 3)).block, (ad.add (i * 3)).off + 2, none⟩ = some (.slice B2 (rd_T27 kids i).f2.length d2) ∧ w'.cell? ⟨bl, 0, none⟩ = some (.slice A1 l1.length c1) ∧ w'.cell? ⟨bs, 0, none⟩ = some (.slice A2 l2.length c2)) (ds := []) #[false, false, false, false, false, false, false, false, false] (by kernel_rfl) rfl rfl ⟨t2, e0, e1, e2, tl, ts⟩ (fun hHeld => ?_)
    refine with_tabW gkid.tab3 gkid.bits3 (fun HT_ HW_ => ?_)
    refine pure_ (i := 0) (N := some 11) (v := ?_) (a' := ?_) #[true, false, false, false, false, false, false, false, false] rfl rfl (any_of HT_.out (by kernel_rfl)) (fun _ _ _ h => h) (Or.inl ⟨by rfl, ?_⟩) ?_ ?_
    rotate_left
    · intro w'
      go_simp
      with_reducible rfl
    rotate_left
    · simp only [Act.put, List.setIfInBounds_toArray, List.set_cons_zero, List.set_cons_succ, i64_w, i32_w]
      rfl
    refine take_ (i := 1) (N := some 12) (v := ?_) (a' := ?_) #[true, true, false, false, false, false, false, false, false] rfl rfl (take_ofW HT_.out HW_.out (by kernel_rfl)) (fun _ _ _ h => h) (Or.inl ⟨by rfl, ?_⟩) hHeld ?_ ?_
    rotate_left
    · intro w' s0
      go_simp
      with_reducible rfl
    rotate_left
    · simp only [Act.put, List.setIfInBounds_toArray, List.set_cons_zero, List.set_cons_succ, i64_w, i32_w]
      rfl
    refine pure_ (i := 2) (N := some 13) (v := ?_) (a' := ?_) #[true, true, true, false, false, false, false, false, false] rfl rfl (any_of HT_.out (by kernel_rfl)) (fun _ _ _ h => h) (Or.inl ⟨by rfl, ?_⟩) ?_ ?_
    rotate_left
    · intro w'
      go_simp
      with_reducible rfl
    rotate_left
    · simp only [Act.put, List.setIfInBounds_toArray, List.set_cons_zero, List.set_cons_succ, i64_w, i32_w]
      rfl
    refine pure_ (i := 3) (N := some 14) (v := ?_) (a' := ?_) #[true, true, true, true, false, false, false, false, false] rfl rfl (any_of HT_.out (by kernel_rfl)) (fun _ _ _ h => h) (Or.inl ⟨by rfl, ?_⟩) ?_ ?_
    rotate_left
    · intro w'
      go_simp
      with_reducible rfl
    rotate_left
    · simp only [Act.put, List.setIfInBounds_toArray, List.set_cons_zero, List.set_cons_succ, i64_w, i32_w]
      rfl
    refine take_ (i := 4) (N := some 15) (v := ?_) (a' := ?_) #[true, true, true, true, true, false, false, false, false] rfl rfl (take_ofW HT_.out HW_.out (by kernel_rfl)) (fun _ _ _ h => h) (Or.inl ⟨by rfl, ?_⟩) hHeld ?_ ?_
    rotate_left
    · intro w' s0
      go_simp
      with_reducible rfl
    rotate_left
    · simp only [Act.put, List.setIfInBounds_toArray, List.set_cons_zero, List.set_cons_succ, i64_w, i32_w]
      rfl
    refine take_ (i := 5) (N := some 16) (v := ?_) (a' := ?_) #[true, true, true, true, true, true, false, false, false] rfl rfl (take_ofW HT_.out HW_.out (by kernel_rfl)) (fun _ _ _ h => h) (Or.inl ⟨by rfl, ?_⟩) hHeld ?_ ?_
    rotate_left
    · intro w' s0
      go_simp
      with_reducible rfl
    rotate_left
    · simp only [Act.put, List.setIfInBounds_toArray, List.set_cons_zero, List.set_cons_succ, i64_w, i32_w]
      rfl
    refine take_ (i := 6) (N := some 17) (v := ?_) (a' := ?_) #[true, true, true, true, true, true, true, false, false] rfl rfl (take_ofW HT_.out HW_.out (by kernel_rfl)) (fun _ _ _ h => h) (Or.inl ⟨by rfl, ?_⟩) hHeld ?_ ?_
    rotate_left
    · intro w' s0
      go_simp
      with_reducible rfl
    rotate_left
    · simp only [Act.put, List.setIfInBounds_toArray, List.set_cons_zero, List.set_cons_succ, i64_w, i32_w]
      rfl
    refine one_ (i := 7) (N := some 18) #[true, true, true, true, true, true, true, true, false] rfl rfl (one_of HT_.out (by kernel_rfl)) (by decide) (fun K hK => ?_)
  
    refine goes_ Try.func48 (by kernel_rfl) rfl #[.agg #[.int .i64 (rd_T27 kids i).f0, .int .i64 (rd_T27 kids i).f1, .slice B2 (rd_T27 kids i).f2.length d2], .slice A1 l1.length c1, .slice A2 l2.length c2] (by rfl) rfl rfl (by (try simp only [List.map_toArray, List.map_cons, List.map_nil]); first | done | rfl) ?_
    refine (IH.out (rd_T27 kids i).f0 (rd_T27 kids i).f1 B2 d2 (rd_T27 kids i).f2 x _ (Kd.C_drew hC2) hd2 (Kd.C_drew H12.out.1) (Kd.C_drew H12.out.2) ?_).mono ?_
    · have := HX.out
      unfold txtKid at this
      rw [if_neg (by omega)] at this
      exact this
    rintro e w1 ⟨rfl, hb1⟩
    refine ⟨_, rfl, ?_⟩
    have HB1 : Hid (Below W.heap.size W w1) := Lib.hid (below_step (below_drew (Below.refl _ _)) hb1)
    refine hK.out _ _ ⟨pw_cell_below HB1.out t2, pw_cell_below HB1.out e0, pw_cell_below HB1.out e1, pw_cell_below HB1.out e2, pw_cell_below HB1.out tl, pw_cell_below HB1.out ts⟩ (fun hHeld => ?_)
    clear hK K hb1
    refine norm_ (a' := ?_) ?_ ?_
    rotate_left
    · show Act.put _ (some 18) _ = _
      simp only [Act.put, List.setIfInBounds_toArray, List.set_cons_zero, List.set_cons_succ, i64_w, i32_w]
      rfl
    refine pure_ (i := 8) (N := some 5) (v := ?_) (a' := ?_) #[true, true, true, true, true, true, true, true, true] rfl rfl (any_of HT_.out (by kernel_rfl)) (fun _ _ _ h => h) (Or.inl ⟨by rfl, ?_⟩) ?_ ?_
    rotate_left
    · intro w'
      go_simp
      with_reducible rfl
    rotate_left
    · simp only [Act.put, List.setIfInBounds_toArray, List.set_cons_zero, List.set_cons_succ, i64_w, i32_w]
      rfl
    refine done_ (done_of HT_.out (by kernel_rfl)) ?_
    go_wp2
    go_ret
    exact ⟨rfl, HB1.out⟩
  · have p1 : (kids.length : Int) ≤ (i : Int) := by omega
    have hx5 : x = ⟨#[95]⟩ := by
      have := HX.out
      unfold txtKid at this
      rw [if_pos (by omega)] at this
      injection this with this
      exact this.symm
    subst hx5
    go_wp2
    go_ret
    exact ⟨rfl, Below.refl _ _⟩
set_option linter.unusedSimpArgs false in
set_option maxHeartbeats 4000000 in
set_option maxRecDepth 100000 in
theorem group_Text.calls (k : Nat) : ∀ (a0_0 : Int) (a0_1 : Int) (A0_2 : Option Addr) (c0_2 : Nat) (l0_2 : List S27) (A1 : Option Addr) (c1 : Nat) (l1 : List ByteArray) (A2 : Option Addr) (c2 : Nat) (l2 : List ByteArray) (r : ByteArray) (w : World) (hr0_2 : Kd.C k27 w A0_2 l0_2.length l0_2) (hc0_2 : l0_2.length ≤ c0_2) (hr1 : Kd.C Kd.string w A1 l1.length l1) (hc1 : l1.length ≤ c1) (hr2 : Kd.C Kd.string w A2 l2.length l2) (hc2 : l2.length ≤ c2) (h : group_Text.f k a0_0 a0_1 l0_2 l1 l2 = some r),
    Calls Try.prog 48 #[.agg #[.int .i64 a0_0, .int .i64 a0_1, .slice A0_2 l0_2.length c0_2], .slice A1 l1.length c1, .slice A2 l2.length c2] w fun e w' => e = .returned (.string r) ∧ Below w.heap.size w w' := by
  induction k with
  | zero =>
    intro a0 a1 A c kids A1 c1 l1 A2 c2 l2 r w _ _ _ _ _ _ h
    cases h
  | succ k ih =>
    intro s lf A c kids A1 c1 l1 A2 c2 l2 r w hk hc h1 hc1 h2 hc2 h
    have hb3 : Below w.heap.size w (((w.alloc (.cells #[.int .i64 s, .int .i64 lf, .slice A kids.length c] 27)).alloc (.cells #[.slice A1 l1.length c1] 22)).alloc (.cells #[.slice A2 l2.length c2] 22)) := below_alloc (below_alloc (below_alloc (Below.refl _ _) _) _) _
    have hbt : (((w.alloc (.cells #[.int .i64 s, .int .i64 lf, .slice A kids.length c] 27)).alloc (.cells #[.slice A1 l1.length c1] 22)).alloc (.cells #[.slice A2 l2.length c2] 22)).heap[w.heap.size]? = some (.cells #[.int .i64 s, .int .i64 lf, .slice A kids.length c] 27 (0, 0)) := blk_alloc (blk_alloc (blk_new w _) _) _
    have hbl : (((w.alloc (.cells #[.int .i64 s, .int .i64 lf, .slice A kids.length c] 27)).alloc (.cells #[.slice A1 l1.length c1] 22)).alloc (.cells #[.slice A2 l2.length c2] 22)).heap[w.heap.size + 1]? = some (.cells #[.slice A1 l1.length c1] 22 (0, 0)) := by
      have := blk_alloc (blk_new (w.alloc (.cells #[.int .i64 s, .int .i64 lf, .slice A kids.length c] 27)) (.cells #[.slice A1 l1.length c1] 22)) (.cells #[.slice A2 l2.length c2] 22)
      simpa using this
    have hbs : (((w.alloc (.cells #[.int .i64 s, .int .i64 lf, .slice A kids.length c] 27)).alloc (.cells #[.slice A1 l1.length c1] 22)).alloc (.cells #[.slice A2 l2.length c2] 22)).heap[w.heap.size + 1 + 1]? = some (.cells #[.slice A2 l2.length c2] 22 (0, 0)) := by
      have := blk_new ((w.alloc (.cells #[.int .i64 s, .int .i64 lf, .slice A kids.length c] 27)).alloc (.cells #[.slice A1 l1.length c1] 22)) (.cells #[.slice A2 l2.length c2] 22)
      simpa using this
    have HB3 := Lib.hid hb3
    have HBT := Lib.hid hbt
    have HBL := Lib.hid hbl
    have HBS := Lib.hid hbs
    have IH := Lib.hid (fun (a0_0 : Int) (a0_1 : Int) (A0_2 : Option Addr) (c0_2 : Nat) (l0_2 : List S27) (r : ByteArray) (w : World) (q1 : Kd.C k27 w A0_2 l0_2.length l0_2) (q2 : l0_2.length ≤ c0_2) (q3 : Kd.C Kd.string w A1 l1.length l1) (q4 : Kd.C Kd.string w A2 l2.length l2) (q5 : group_Text.f k a0_0 a0_1 l0_2 l1 l2 = some r) => ih a0_0 a0_1 A0_2 c0_2 l0_2 A1 c1 l1 A2 c2 l2 r w q1 q2 q3 hc1 q4 hc2 q5)
    have HC := Lib.hid (And.intro (Kd.C_below hk hb3) (And.intro (Kd.C_below h1 hb3) (Kd.C_below h2 hb3)))
    have HLC := Lib.hid (And.intro hc (And.intro hc1 hc2))
    have HR := Lib.hid h
    clear hb3 hbt hbl hbs ih hk h1 h2 h hc hc1 hc2
    go_enter Try.func48, Try.ntmps48
    by_cases hs : s < 0
    · go_wp2_with fail
      refine (group_at.calls A1 c1 l1 lf r _ HC.out.2.1 HLC.out.2.1 ?_).mono ?_
      · have := HR.out
        unfold group_Text.f at this
        rw [if_pos hs] at this
        exact this
      rintro e w1 ⟨rfl, hd⟩
      have HD := Lib.hid hd.below
      clear hd
      go_wp2
      go_ret
      exact ⟨rfl, below_step HB3.out HD.out⟩
    · have hr := HR.out
      unfold group_Text.f at hr
      rw [if_neg hs] at hr
      obtain ⟨x0, hx0, hr⟩ := Option.bind_eq_some_iff.1 hr
      obtain ⟨y, hy, hr⟩ := Option.bind_eq_some_iff.1 hr
      obtain ⟨x1, hx1, hr⟩ := Option.bind_eq_some_iff.1 hr
      split at hr
      case isFalse => cases hr
      rename_i hsz
      injection hr with hr
      have g1 : ¬ 9223372036854775807 < 1 + x0.size := by omega
      have g2 : ¬ 9223372036854775807 < 1 + x0.size + 1 := by omega
      have g3 : ¬ 9223372036854775807 < 1 + x0.size + 1 + y.size := by omega
      have g4 : ¬ 9223372036854775807 < 1 + x0.size + 1 + y.size + 1 := by omega
      have g5 : ¬ 9223372036854775807 < 1 + x0.size + 1 + y.size + 1 + x1.size := by omega
      have g6 : ¬ 9223372036854775807 < 1 + x0.size + 1 + y.size + 1 + x1.size + 1 := by omega
      clear hsz
      have HX := Lib.hid (And.intro hx0 (And.intro hy hx1))
      clear hx0 hy hx1 HR
      subst hr
      go_wp2_with fail
      obtain ⟨W, hW⟩ : ∃ W, W = (((w.alloc (.cells #[.int .i64 s, .int .i64 lf, .slice A kids.length c] 27)).alloc (.cells #[.slice A1 l1.length c1] 22)).alloc (.cells #[.slice A2 l2.length c2] 22)) := ⟨_, rfl⟩
      rw [← hW] at HB3 HBT HBL HBS HC ⊢
      clear hW
      have ts : W.cell? ⟨w.heap.size, 0, none⟩ = some (.int .i64 s) := (blk_cell HBT.out 0).trans rfl
      have tg : W.cell? ⟨w.heap.size + 1 + 1, 0, none⟩ = some (.slice A2 l2.length c2) := (blk_cell HBS.out 0).trans rfl
      refine start_ (n := 15) (S := fun w' => w'.cell? ⟨w.heap.size + 1 + 1, 0, none⟩ = some (.slice A2 l2.length c2) ∧ w'.cell? ⟨w.heap.size, 0, none⟩ = some (.int .i64 s)) (ds := []) #[false, false, false, false, false, false, false, false, false, false, false, false, false, false, false] (by kernel_rfl) rfl rfl ⟨tg, ts⟩ (fun hHeld => ?_)
      refine with_tabW gtext.tab4 gtext.bits4 (fun HT_ HW_ => ?_)
      refine pure_ (i := 0) (N := some 16) (v := ?_) (a' := ?_) #[true, false, false, false, false, false, false, false, false, false, false, false, false, false, false] rfl rfl (any_of HT_.out (by kernel_rfl)) (fun _ _ _ h => h) (Or.inl ⟨by rfl, ?_⟩) ?_ ?_
      rotate_left
      · intro w'
        go_simp
        with_reducible rfl
      rotate_left
      · simp only [Act.put, List.setIfInBounds_toArray, List.set_cons_zero, List.set_cons_succ, i64_w, i32_w]
        rfl
      refine take_ (i := 4) (N := some 20) (v := ?_) (a' := ?_) #[true, false, false, false, true, false, false, false, false, false, false, false, false, false, false] rfl rfl (take_ofW HT_.out HW_.out (by kernel_rfl)) (fun _ _ _ h => h) (Or.inl ⟨by rfl, ?_⟩) hHeld ?_ ?_
      rotate_left
      · intro w' s0
        go_simp
        with_reducible rfl
      rotate_left
      · simp only [Act.put, List.setIfInBounds_toArray, List.set_cons_zero, List.set_cons_succ, i64_w, i32_w]
        rfl
      refine pure_ (i := 5) (N := some 21) (v := ?_) (a' := ?_) #[true, false, false, false, true, true, false, false, false, false, false, false, false, false, false] rfl rfl (any_of HT_.out (by kernel_rfl)) (fun _ _ _ h => h) (Or.inl ⟨by rfl, ?_⟩) ?_ ?_
      rotate_left
      · intro w'
        go_simp
        with_reducible rfl
      rotate_left
      · simp only [Act.put, List.setIfInBounds_toArray, List.set_cons_zero, List.set_cons_succ, i64_w, i32_w]
        rfl
      refine take_ (i := 6) (N := some 22) (v := ?_) (a' := ?_) #[true, false, false, false, true, true, true, false, false, false, false, false, false, false, false] rfl rfl (take_ofW HT_.out HW_.out (by kernel_rfl)) (fun _ _ _ h => h) (Or.inl ⟨by rfl, ?_⟩) hHeld ?_ ?_
      rotate_left
      · intro w' s0
        go_simp
        with_reducible rfl
      rotate_left
      · simp only [Act.put, List.setIfInBounds_toArray, List.set_cons_zero, List.set_cons_succ, i64_w, i32_w]
        rfl
      refine pure_ (i := 10) (N := some 26) (v := ?_) (a' := ?_) #[true, false, false, false, true, true, true, false, false, false, true, false, false, false, false] rfl rfl (any_of HT_.out (by kernel_rfl)) (fun _ _ _ h => h) (Or.inl ⟨by rfl, ?_⟩) ?_ ?_
      rotate_left
      · intro w'
        go_simp
        with_reducible rfl
      rotate_left
      · simp only [Act.put, List.setIfInBounds_toArray, List.set_cons_zero, List.set_cons_succ, i64_w, i32_w]
        rfl
      refine one_ (i := 1) (N := some 17) #[true, true, false, false, true, true, true, false, false, false, true, false, false, false, false] rfl rfl (one_of HT_.out (by kernel_rfl)) (by decide) (fun K hK => ?_)
      refine goesC_ Try.func87 (by kernel_rfl) rfl #[.int .i64 ((0 : Nat) : Int)] #[.pointer (some ⟨w.heap.size, 0, none⟩), .pointer (some ⟨w.heap.size + 1, 0, none⟩), .pointer (some ⟨w.heap.size + 1 + 1, 0, none⟩)] #[.int .i64 ((0 : Nat) : Int), .pointer (some ⟨w.heap.size, 0, none⟩), .pointer (some ⟨w.heap.size + 1, 0, none⟩), .pointer (some ⟨w.heap.size + 1 + 1, 0, none⟩)] (by simp) (by rfl) rfl rfl (by rfl) (by (try simp only [List.map_toArray, List.map_cons, List.map_nil]); first | done | rfl) ?_

      have HB0 := Lib.hid (below_drew (Below.refl W.heap.size W))
      refine (kid_any k A1 c1 l1 A2 c2 l2 HLC.out.2.1 HLC.out.2.2 IH.out 0 (by omega) s lf A c kids _ _ _ x0 _ (blk_below HBT.out HB0.out) (blk_below HBL.out HB0.out) (blk_below HBS.out HB0.out) (Kd.C_below HC.out.1 HB0.out) (Kd.C_below HC.out.2.1 HB0.out) (Kd.C_below HC.out.2.2 HB0.out) HX.out.1).mono ?_
      rintro e w1 ⟨rfl, hb1⟩
      refine ⟨_, rfl, ?_⟩
      have HB1 : Hid (Below W.heap.size W w1) := Lib.hid (below_step HB0.out hb1)
      refine hK.out _ _ ⟨pw_cell_below HB1.out tg, pw_cell_below HB1.out ts⟩ (fun hHeld => ?_)
      clear hK K hb1
      refine norm_ (a' := ?_) ?_ ?_
      rotate_left
      · show Act.put _ (some 17) _ = _
        simp only [Act.put, List.setIfInBounds_toArray, List.set_cons_zero, List.set_cons_succ, i64_w, i32_w]
        rfl
      refine pure_ (i := 2) (N := some 18) (v := ?_) (a' := ?_) #[true, true, true, false, true, true, true, false, false, false, true, false, false, false, false] rfl rfl (any_of HT_.out (by kernel_rfl)) (fun _ _ _ h => h) (Or.inl ⟨by rfl, ?_⟩) ?_ ?_
      rotate_left
      · intro w'
        go_simp
        with_reducible rfl
      rotate_left
      · simp only [Act.put, List.setIfInBounds_toArray, List.set_cons_zero, List.set_cons_succ, i64_w, i32_w]
        rfl
      refine pure_ (i := 3) (N := some 19) (v := ?_) (a' := ?_) #[true, true, true, true, true, true, true, false, false, false, true, false, false, false, false] rfl rfl (any_of HT_.out (by kernel_rfl)) (fun _ _ _ h => h) (Or.inl ⟨by rfl, ?_⟩) ?_ ?_
      rotate_left
      · intro w'
        go_simp
        with_reducible rfl
      rotate_left
      · simp only [Act.put, List.setIfInBounds_toArray, List.set_cons_zero, List.set_cons_succ, i64_w, i32_w]
        rfl
      refine one_ (i := 7) (N := some 23) #[true, true, true, true, true, true, true, true, false, false, true, false, false, false, false] rfl rfl (one_of HT_.out (by kernel_rfl)) (by decide) (fun K hK => ?_)
      refine goes_ Try.func86 (by kernel_rfl) rfl #[.slice A2 l2.length c2, .int .i64 s] (by rfl) rfl rfl (by (try simp only [List.map_toArray, List.map_cons, List.map_nil]); first | done | rfl) ?_
      refine (group_at.calls A2 c2 l2 s y _ (Kd.C_below HC.out.2.2 HB1.out) HLC.out.2.2 HX.out.2.1).mono ?_
      rintro e w2 ⟨rfl, hd⟩
      refine ⟨_, rfl, ?_⟩
      have HB2 : Hid (Below W.heap.size W w2) := Lib.hid (below_step HB1.out hd.below)
      refine hK.out _ _ ⟨pw_cell_below HB2.out tg, pw_cell_below HB2.out ts⟩ (fun hHeld => ?_)
      clear hK K hd
      refine norm_ (a' := ?_) ?_ ?_
      rotate_left
      · show Act.put _ (some 23) _ = _
        simp only [Act.put, List.setIfInBounds_toArray, List.set_cons_zero, List.set_cons_succ, i64_w, i32_w]
        rfl
      refine pure_ (i := 8) (N := some 24) (v := ?_) (a' := ?_) #[true, true, true, true, true, true, true, true, true, false, true, false, false, false, false] rfl rfl (any_of HT_.out (by kernel_rfl)) (fun _ _ _ h => h) (Or.inl ⟨by rfl, ?_⟩) ?_ ?_
      rotate_left
      · intro w'
        go_simp
        with_reducible rfl
      rotate_left
      · simp only [Act.put, List.setIfInBounds_toArray, List.set_cons_zero, List.set_cons_succ, i64_w, i32_w]
        rfl
      refine pure_ (i := 9) (N := some 25) (v := ?_) (a' := ?_) #[true, true, true, true, true, true, true, true, true, true, true, false, false, false, false] rfl rfl (any_of HT_.out (by kernel_rfl)) (fun _ _ _ h => h) (Or.inl ⟨by rfl, ?_⟩) ?_ ?_
      rotate_left
      · intro w'
        go_simp
        with_reducible rfl
      rotate_left
      · simp only [Act.put, List.setIfInBounds_toArray, List.set_cons_zero, List.set_cons_succ, i64_w, i32_w]
        rfl
      refine one_ (i := 11) (N := some 27) #[true, true, true, true, true, true, true, true, true, true, true, true, false, false, false] rfl rfl (one_of HT_.out (by kernel_rfl)) (by decide) (fun K hK => ?_)
      refine goesC_ Try.func87 (by kernel_rfl) rfl #[.int .i64 ((1 : Nat) : Int)] #[.pointer (some ⟨w.heap.size, 0, none⟩), .pointer (some ⟨w.heap.size + 1, 0, none⟩), .pointer (some ⟨w.heap.size + 1 + 1, 0, none⟩)] #[.int .i64 ((1 : Nat) : Int), .pointer (some ⟨w.heap.size, 0, none⟩), .pointer (some ⟨w.heap.size + 1, 0, none⟩), .pointer (some ⟨w.heap.size + 1 + 1, 0, none⟩)] (by simp) (by rfl) rfl rfl (by rfl) (by (try simp only [List.map_toArray, List.map_cons, List.map_nil]); first | done | rfl) ?_

      refine (kid_any k A1 c1 l1 A2 c2 l2 HLC.out.2.1 HLC.out.2.2 IH.out 1 (by omega) s lf A c kids _ _ _ x1 _ (blk_below HBT.out HB2.out) (blk_below HBL.out HB2.out) (blk_below HBS.out HB2.out) (Kd.C_below HC.out.1 HB2.out) (Kd.C_below HC.out.2.1 HB2.out) (Kd.C_below HC.out.2.2 HB2.out) HX.out.2.2).mono ?_
      rintro e w3 ⟨rfl, hb3⟩
      refine ⟨_, rfl, ?_⟩
      have HB4 : Hid (Below W.heap.size W w3) := Lib.hid (below_step HB2.out hb3)
      refine hK.out _ _ ⟨pw_cell_below HB4.out tg, pw_cell_below HB4.out ts⟩ (fun hHeld => ?_)
      clear hK K hb3
      refine norm_ (a' := ?_) ?_ ?_
      rotate_left
      · show Act.put _ (some 27) _ = _
        simp only [Act.put, List.setIfInBounds_toArray, List.set_cons_zero, List.set_cons_succ, i64_w, i32_w]
        rfl
      refine pure_ (i := 12) (N := some 28) (v := ?_) (a' := ?_) #[true, true, true, true, true, true, true, true, true, true, true, true, true, false, false] rfl rfl (any_of HT_.out (by kernel_rfl)) (fun _ _ _ h => h) (Or.inl ⟨by rfl, ?_⟩) ?_ ?_
      rotate_left
      · intro w'
        go_simp
        with_reducible rfl
      rotate_left
      · simp only [Act.put, List.setIfInBounds_toArray, List.set_cons_zero, List.set_cons_succ, i64_w, i32_w]
        rfl
      refine pure_ (i := 13) (N := some 29) (v := ?_) (a' := ?_) #[true, true, true, true, true, true, true, true, true, true, true, true, true, true, false] rfl rfl (any_of HT_.out (by kernel_rfl)) (fun _ _ _ h => h) (Or.inl ⟨by rfl, ?_⟩) ?_ ?_
      rotate_left
      · intro w'
        go_simp
        with_reducible rfl
      rotate_left
      · simp only [Act.put, List.setIfInBounds_toArray, List.set_cons_zero, List.set_cons_succ, i64_w, i32_w]
        rfl
      refine pure_ (i := 14) (N := some 6) (v := ?_) (a' := ?_) #[true, true, true, true, true, true, true, true, true, true, true, true, true, true, true] rfl rfl (any_of HT_.out (by kernel_rfl)) (fun _ _ _ h => h) (Or.inl ⟨by rfl, ?_⟩) ?_ ?_
      rotate_left
      · intro w'
        go_simp
        with_reducible rfl
      rotate_left
      · simp only [Act.put, List.setIfInBounds_toArray, List.set_cons_zero, List.set_cons_succ, i64_w, i32_w]
        rfl
      refine done_ (done_of HT_.out (by kernel_rfl)) ?_
      go_wp2
      go_ret
      exact ⟨rfl, below_step HB3.out HB4.out⟩

end Go.Proofs.Ytjnhdoaceegkoaa.PGw
