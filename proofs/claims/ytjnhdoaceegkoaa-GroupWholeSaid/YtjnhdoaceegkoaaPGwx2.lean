-- WRITTEN BY gprint.py, a program of this session, out of the translation (over the kit's print.py): Lean checks it.
import Derived.Test.YtjnhdoaceegkoaaPGwx0
import Derived.Test.YtjnhdoaceegkoaaPGwx1
import Derived.Test.YtjnhdoaceegkoaaShelf
import Derived.WalkLawsBesides
import Derived.LoopTactic
import Derived.ProofKit
import Derived.Lib.Hide
import Derived.Deep.WholeRow
import Derived.Deep.DeepMust
import Derived.IntWalk
import Derived.Deep.DeepCutAuto
namespace Go.Proofs.Ytjnhdoaceegkoaa.PGw
open Go.RowKit Go.Proofs.YtjnhdoaceegkoaaW.PrintWords Go.Proofs.YtjnhdoaceegkoaaW.PrintLast Go.Proofs.YtjnhdoaceegkoaaW.PrintMore
attribute [local go_sem] max2_int min2_int max_two min_two max_three min_three max_four min_four   -- for this text's walks alone
set_option linter.unusedVariables false
set_option linter.unusedSimpArgs false

--@given oriel/name.Kind making=1 rounds=0
--@uses oriel/name.reserved slices.BinarySearch[[]string,string] oriel/name.small oriel/name.great
--@import Derived.Test.YtjnhdoaceegkoaaShelf
--@import Derived.WalkLawsBesides
--@import Derived.LoopTactic
--@import Derived.ProofKit
--@import Derived.Lib.Hide
--@import Derived.Deep.WholeRow
--@import Derived.Deep.DeepMust
--@import Derived.IntWalk
--@import Derived.Deep.DeepCutAuto
/-! ### name_Kind: names, by hand -/
theorem ret_bool {a b : Bool} (h : a = b) : Ending.returned (.bool a) = .returned (.bool b) := by rw [h]
theorem ret_i64 {a b : Int} (h : a = b) : Ending.returned (.int .i64 a) = .returned (.int .i64 b) := by rw [h]
/-- is a byte a sign's? -/
def signB (n : Int) : Bool := decide (0 ≤ Lib.indexByte [33, 37, 38, 36, 35, 43, 45, 47, 58, 60, 61, 62, 63, 64, 92, 126, 96, 94, 124, 42] n.toNat.toUInt8)
def smallB (n : Int) : Bool := decide (97 ≤ n) && decide (n ≤ 122)
def greatB (n : Int) : Bool := decide (65 ≤ n) && decide (n ≤ 90)
def restB (n : Int) : Bool := smallB n || greatB n || (decide (48 ≤ n) && decide (n ≤ 57)) || n == 95 || n == 39
theorem sign_any (n : Int) (w : World) :
    Calls Try.prog 96 #[.int .u8 n] w fun e w' => e = .returned (.bool (signB n)) ∧ w' = w := by
  go_enter Try.func96, Try.ntmps96
  go_wp2_with (go_at_call 109; refine (Try.strings_IndexByte _ _ _).mono ?_; rintro e w' ⟨rfl, rfl⟩)
  go_ret
  exact ⟨rfl, rfl⟩
theorem small_any (n : Int) (w : World) :
    Calls Try.prog 98 #[.int .u8 n] w fun e w' => e = .returned (.bool (smallB n)) ∧ w' = w := by
  go_enter Try.func98, Try.ntmps98
  go_wp2
  all_goals
    go_ret
    exact ⟨ret_bool (Bool.eq_iff_iff.2 (by unfold smallB; simp; omega)), rfl⟩
theorem great_any (n : Int) (w : World) :
    Calls Try.prog 100 #[.int .u8 n] w fun e w' => e = .returned (.bool (greatB n)) ∧ w' = w := by
  go_enter Try.func100, Try.ntmps100
  go_wp2
  all_goals
    go_ret
    exact ⟨ret_bool (Bool.eq_iff_iff.2 (by unfold greatB; simp; omega)), rfl⟩
theorem rest_any (n : Int) (w : World) :
    Calls Try.prog 99 #[.int .u8 n] w fun e w' => e = .returned (.bool (restB n)) ∧ w' = w := by
  cases hs : smallB n <;> cases hg : greatB n
  all_goals
    have Hs := Lib.hid hs
    have Hg := Lib.hid hg
    clear hs hg
    go_enter Try.func99, Try.ntmps99
    go_wp2_with (first | (go_at_call 98; refine (small_any n _).mono ?_; rintro e w' ⟨rfl, rfl⟩; rw [Hs.out]) | (go_at_call 100; refine (great_any n _).mono ?_; rintro e w' ⟨rfl, rfl⟩; rw [Hg.out]))
    all_goals
      go_ret
      refine ⟨ret_bool ?_, rfl⟩
      simp only [restB, Hs.out, Hg.out]
      first | rfl | exact Bool.eq_iff_iff.2 (by simp; omega) | (simp; omega)
/-- is each byte of a text one of some? -/
def allB (p : Int → Bool) (s : ByteArray) : Bool := decide (∀ i : Nat, i < s.size → p (bt s i) = true)
theorem allB_step (p : Int → Bool) (s : ByteArray) (k : Nat) (h : ∀ i : Nat, i < k → p (bt s i) = true) (hk : p (bt s k) = true) : ∀ i : Nat, i < k + 1 → p (bt s i) = true := by
  intro i hi
  by_cases e : i = k
  · rw [e]; exact hk
  · exact h i (by omega)
set_option maxHeartbeats 400000 in
set_option maxRecDepth 100000 in
theorem all_sign (s : ByteArray) (hs : s.size ≤ 9223372036854775807) (w : World) :
    Calls Try.prog 97 #[.string s, .func (.func 96) #[] #[]] w fun e w' => e = .returned (.bool (allB signB s)) ∧ w' = w := by
  go_enter Try.func97, Try.ntmps97
  go_wp2
  go_loop [8] (fun i => ∃ k : Nat, k ≤ s.size ∧ i = .int .i64 k ∧ Hid (∀ i : Nat, i < k → signB (bt s i) = true)) (fun i => s.size - (intOf i).toNat)
  case atStart => exact ⟨0, Nat.zero_le _, rfl, Lib.hid (fun i h => by omega)⟩
  case round =>
    obtain ⟨k, hk, rfl, H⟩ := hrel
    by_cases hlt : k < s.size
    · have hbt : ((s[k]'hlt).toNat : Int) = bt s k := by have := bt_at s k (by simpa using hlt); simpa using this
      have HBT := Lib.hid hbt
      clear hbt
      cases hb : signB (bt s k)
      all_goals
        have HB := Lib.hid hb
        clear hb
        go_wp2_with (go_at_call 96; rw [HBT.out]; refine (sign_any _ _).mono ?_; rintro e w' ⟨rfl, rfl⟩; rw [HB.out])
      · go_ret
        refine ⟨ret_bool ?_, rfl⟩
        symm
        exact decide_eq_false (fun h => by rw [h k hlt] at HB; exact absurd HB.out (by simp))
      · go_round
        case rel => exact ⟨k + 1, by omega, by go_num, Lib.hid (allB_step _ s k H.out HB.out)⟩
        case measure => simp [intOf]; omega
    · go_wp2
      go_ret
      exact ⟨ret_bool (decide_eq_true (fun i hi => H.out i (by omega))).symm, rfl⟩
set_option maxHeartbeats 400000 in
set_option maxRecDepth 100000 in
theorem all_rest (s : ByteArray) (hs : s.size ≤ 9223372036854775807) (w : World) :
    Calls Try.prog 97 #[.string s, .func (.func 99) #[] #[]] w fun e w' => e = .returned (.bool (allB restB s)) ∧ w' = w := by
  go_enter Try.func97, Try.ntmps97
  go_wp2
  go_loop [8] (fun i => ∃ k : Nat, k ≤ s.size ∧ i = .int .i64 k ∧ Hid (∀ i : Nat, i < k → restB (bt s i) = true)) (fun i => s.size - (intOf i).toNat)
  case atStart => exact ⟨0, Nat.zero_le _, rfl, Lib.hid (fun i h => by omega)⟩
  case round =>
    obtain ⟨k, hk, rfl, H⟩ := hrel
    by_cases hlt : k < s.size
    · have hbt : ((s[k]'hlt).toNat : Int) = bt s k := by have := bt_at s k (by simpa using hlt); simpa using this
      have HBT := Lib.hid hbt
      clear hbt
      cases hb : restB (bt s k)
      all_goals
        have HB := Lib.hid hb
        clear hb
        go_wp2_with (go_at_call 99; rw [HBT.out]; refine (rest_any _ _).mono ?_; rintro e w' ⟨rfl, rfl⟩; rw [HB.out])
      · go_ret
        refine ⟨ret_bool ?_, rfl⟩
        symm
        exact decide_eq_false (fun h => by rw [h k hlt] at HB; exact absurd HB.out (by simp))
      · go_round
        case rel => exact ⟨k + 1, by omega, by go_num, Lib.hid (allB_step _ s k H.out HB.out)⟩
        case measure => simp [intOf]; omega
    · go_wp2
      go_ret
      exact ⟨ret_bool (decide_eq_true (fun i hi => H.out i (by omega))).symm, rfl⟩
def kwL : List ByteArray := [(⟨#[97, 110, 100]⟩ : ByteArray), ⟨#[97, 115]⟩, ⟨#[99, 97, 115, 101]⟩, ⟨#[100, 97, 116, 97, 116, 121, 112, 101]⟩, ⟨#[101, 108, 115, 101]⟩, ⟨#[101, 110, 100]⟩, ⟨#[102, 110]⟩, ⟨#[102, 117, 110]⟩, ⟨#[102, 117, 110, 99, 116, 111, 114]⟩, ⟨#[105, 102]⟩, ⟨#[105, 110]⟩, ⟨#[105, 110, 99, 108, 117, 100, 101]⟩, ⟨#[108, 101, 116]⟩, ⟨#[108, 111, 99, 97, 108]⟩, ⟨#[111, 102]⟩, ⟨#[111, 112]⟩, ⟨#[111, 112, 101, 110]⟩, ⟨#[115, 105, 103]⟩, ⟨#[115, 105, 103, 110, 97, 116, 117, 114, 101]⟩, ⟨#[115, 116, 114, 117, 99, 116]⟩, ⟨#[115, 116, 114, 117, 99, 116, 117, 114, 101]⟩, ⟨#[116, 104, 101, 110]⟩, ⟨#[116, 121, 112, 101]⟩, ⟨#[118, 97, 108]⟩]
def kwC : Array Value := (pw_strs kwL).toArray
-- zero strings
def kwZ : Array Value := #[.string ⟨#[]⟩, .string ⟨#[]⟩, .string ⟨#[]⟩, .string ⟨#[]⟩, .string ⟨#[]⟩, .string ⟨#[]⟩, .string ⟨#[]⟩, .string ⟨#[]⟩, .string ⟨#[]⟩, .string ⟨#[]⟩, .string ⟨#[]⟩, .string ⟨#[]⟩, .string ⟨#[]⟩, .string ⟨#[]⟩, .string ⟨#[]⟩, .string ⟨#[]⟩, .string ⟨#[]⟩, .string ⟨#[]⟩, .string ⟨#[]⟩, .string ⟨#[]⟩, .string ⟨#[]⟩, .string ⟨#[]⟩, .string ⟨#[]⟩, .string ⟨#[]⟩]
theorem wpList_build_eq {P : Program} {ops : Array Oper} {rest : List Oper} {o : Oper} {a : Act} {w : World} {Q : Exit → Act → World → Prop} (hg : o.guard = none) (t : TypeId) (parts : Array (Nat × Operand)) (ho : o.op = .build t parts)
    (cells : Array Value) (hf : P.built t (parts.map fun (i, x) => (i, a.eval x)).toList = some cells)
    (h : wpList P ops Q rest (a.put o.dst (.agg cells)) w) : wpList P ops Q (o :: rest) a w :=
  wpList_build hg t parts ho (by rw [hf]; rfl) (by rw [hf]; exact h)
theorem kw_all : kwC.all (·.oneCell') = true := by kernel_rfl
theorem kw_size : kwZ.size = kwC.size := by kernel_rfl
theorem kw_info : (Try.prog.info? 157).map (·.size) = some kwC.size := by kernel_rfl
theorem kw_under : Try.prog.underlying 157 = some (.array 24 9) := by kernel_rfl
set_option maxRecDepth 100000 in
theorem keywords_any (w : World) :
    Calls Try.prog 137 #[] w fun e w' => e = .returned (.agg kwC) ∧ w' = w.alloc (.cells kwC 157) := by
  go_enter Try.func137, Try.ntmps137
  go_wp2_with (first | (with_reducible refine wpList_build_eq rfl _ _ rfl kwC (by kernel_rfl) ?_) | (refine wpList_store_row (g := w.heap.size) (cells := kwC) rfl _ _ _ rfl rfl rfl 157 _ (heap_alloc_new _ _) kw_info (by kernel_rfl) kw_all ?_))
  rw [World.setRow_alloc_new]
  refine bodyPost_ret (v := .agg kwC) ?_ rfl ⟨rfl, rfl⟩
  exact results_cell_row rfl _ _ w.heap.size 157 kwC (0, 0) _ rfl (heap_alloc_new _ _) kw_under rfl kw_info
def kwB : ByteArray := ⟨#[119, 104, 101, 114, 101]⟩
theorem kw_infos : (Try.prog.info? 9).map (fun i => (i.zero, i.size, i.bytes)) = some (some (.string ⟨#[]⟩), 1, 16) := by kernel_rfl
theorem setRow_two (w : World) (A : Obj) (c c' : Array Value) (t : TypeId) : ((w.alloc A).alloc (.cells c t)).setRow (w.heap.size + 1) c' = (w.alloc A).alloc (.cells c' t) := by
  have h := World.setRow_alloc_new (w.alloc A) c c' t
  have e : (w.alloc A).heap.size = w.heap.size + 1 := by
    show (w.heap.push A).size = _
    simp
  rwa [e] at h
set_option maxRecDepth 100000 in
theorem Keywords_any (w : World) :
    Calls Try.prog 111 #[] w fun e w' => ∃ v : Value, e = .returned v ∧ w'.ownsRow w.heap.size 9 1 v 25 (pw_strs (kwL ++ [kwB])) ∧ Below w.heap.size w w' := by
  obtain ⟨i0, hi, hz0, hz1, hz2⟩ := info_parts kw_infos
  go_enter Try.func111, Try.ntmps111
  go_wp2_with fail
  refine (keywords_any _).mono ?_
  rintro e w' ⟨rfl, rfl⟩
  have hcells : ∀ j u, (pw_strs kwL)[j]? = some u → ((w.alloc (.cells kwC 157)).alloc (.cells kwC 157)).cell? ⟨w.heap.size + 1, j, none⟩ = some u := by
    intro j u hu
    rw [cell_of_row _ _ j kwC 157 (0, 0) (heap_alloc2_new _ _ _)]
    simpa [kwC] using hu
  have hbel : Below w.heap.size w ((w.alloc (.cells kwC 157)).alloc (.cells kwC 157)) := below_alloc (below_alloc (Below.refl _ _) _) _
  have hsz : ((w.alloc (.cells kwC 157)).alloc (.cells kwC 157)).heap.size = w.heap.size + 2 := by simp
  have HC := Lib.hid (And.intro hcells (And.intro hbel hsz))
  clear hcells hbel hsz
  go_wp2_with (first | ((refine wpList_store_row (g := w.heap.size + 1) (cells := kwC) rfl _ _ _ rfl rfl rfl 157 _ (heap_alloc2_new _ _ _) kw_info (by kernel_rfl) kw_all ?_); rw [setRow_two]; obtain ⟨W, hW⟩ : ∃ W, W = (w.alloc (.cells kwC 157)).alloc (.cells kwC 157) := ⟨_, rfl⟩; rw [← hW]; have HW := Lib.hid hW; clear hW) | (at_builtin; go_must (refine wpList_append_grows _ rfl _ _ 22 rfl 9 i0 (.string ⟨#[]⟩) 1 16 Try.underlying22 hi hz0 hz1 hz2 rfl (by decide) (some ⟨w.heap.size + 1, 0, none⟩) 24 24 (pw_strs kwL) rfl (by intro h; cases h) (by kernel_rfl) ?holds ⟨W.heap.size, 0, none⟩ 1 1 [.string kwB] rfl rfl ?c1 ?c2 (by decide) (by decide) (by decide) ?_)))
  case holds =>
    intro b hb j u hu
    cases hb
    have h := HC.out.1 j u hu
    rw [← HW.out] at h
    rw [add_at, Nat.zero_add]
    exact pw_cell_below (below_alloc (Below.refl _ _) _) h
  case c1 =>
    intro j u hj
    match j, hj with
    | 0, hj => simp at hj; subst hj; simp [Addr.add, kwB]
  case c2 => intro u hu; simp at hu; subst hu; rfl
  intro v' w2 hown hgrow
  have hb2 : Below w.heap.size w w2 := by
    have h := HC.out.2.1
    rw [← HW.out] at h
    exact pw_below_grown (below_alloc h _) none (by have := h.size; simp; omega) hgrow (fun k hk => by cases hk)
  have hown2 : w2.ownsRow w.heap.size 9 1 v' 25 (pw_strs (kwL ++ [kwB])) := by
    have h := own_weaken hown (base' := w.heap.size) (by have := HC.out.2.2; rw [← HW.out] at this; omega)
    simpa [pw_strs] using h
  clear hown hgrow
  have H2 := Lib.hid (And.intro hown2 hb2)
  clear hown2 hb2
  go_wp2
  go_ret
  exact ⟨v', rfl, H2.out.1, H2.out.2⟩
theorem bl_irrefl : ∀ l : List UInt8, Op.bytesLess l l = false
  | [] => rfl
  | a :: l => by simp [Op.bytesLess, bl_irrefl l]
theorem bl_trans : ∀ a b c : List UInt8, Op.bytesLess a b = true → Op.bytesLess b c = true → Op.bytesLess a c = true
  | _, [], _, h, _ => by simp [Op.bytesLess] at h
  | _, _ :: _, [], _, h => by simp [Op.bytesLess] at h
  | [], _ :: _, _ :: _, _, _ => by simp [Op.bytesLess]
  | x :: a, y :: b, z :: c, h1, h2 => by
    simp only [Op.bytesLess, Bool.or_eq_true, decide_eq_true_eq, Bool.and_eq_true, beq_iff_eq] at *
    rcases h1 with h1 | ⟨rfl, h1⟩ <;> rcases h2 with h2 | ⟨rfl, h2⟩
    · left; exact UInt8.lt_trans h1 h2
    · left; exact h1
    · left; exact h2
    · right; exact ⟨rfl, bl_trans a b c h1 h2⟩
theorem less_f (a b : ByteArray) : cmp_Less_string.f a b = some (Op.bytesLess a.toList b.toList) := by
  simp [cmp_Less_string.f, cmp_isNaN_string.f]
theorem w64 {n : Int} (h1 : -9223372036854775808 ≤ n) (h2 : n ≤ 9223372036854775807) : wrap64 n = n := by unfold wrap64; omega
theorem half (lo hi : Nat) (h : lo + hi ≤ 1000000) : wrap64 ((IntKind.u64.wrap (wrap64 ((lo : Int) + hi))) / 2) = (((lo + hi) / 2 : Nat) : Int) := by
  rw [w64 (n := (lo : Int) + hi) (by omega) (by omega), IntWalk.u64_in _ (by omega), w64 (by omega) (by omega)]
  omega
theorem rdOf_at (l : List ByteArray) (i : Nat) (h : i < l.length) : rdOf ByteArray.empty l (i : Int) = l[i] := by
  simp [rdOf, h]
/-- the search of a sorted list -/
theorem bs_l0 (l : List ByteArray) (x : ByteArray) (hl : l.length ≤ 100000) (hs : ∀ i j (hi : i < l.length) (hj : j < l.length), i < j → Op.bytesLess l[i].toList l[j].toList = true) :
    ∀ (k lo hi : Nat), lo ≤ hi → hi ≤ l.length → hi - lo < k → (∀ i (hi : i < l.length), i < lo → Op.bytesLess l[i].toList x.toList = true) → (∀ i (h : i < l.length), hi ≤ i → Op.bytesLess l[i].toList x.toList = false) →
    ∃ r, slices_BinarySearch_string_string.l0 k l x (l.length : Int) (lo : Int) (hi : Int) = some (r, l.any fun y => y.toList == x.toList) := by
  intro k
  induction k with
  | zero => intro lo hi h1 h2 h3; omega
  | succ k ih =>
    intro lo hi h1 h2 h3 hlo hhi
    simp only [slices_BinarySearch_string_string.l0]
    by_cases hlt : lo < hi
    · rw [if_pos (by omega), half lo hi (by omega), if_pos (by omega), if_pos (by omega), rdOf_at l _ (by omega), less_f]
      simp only [Option.bind_some]
      cases hb : Op.bytesLess l[(lo + hi) / 2].toList x.toList with
      | true =>
        rw [if_pos rfl, w64 (n := ((((lo + hi) / 2 : Nat) : Int) + 1)) (by omega) (by omega)]
        have := ih ((lo + hi) / 2 + 1) hi (by omega) h2 (by omega) (fun i hi' hlt' => by
          by_cases e : i = (lo + hi) / 2
          · subst e; exact hb
          · exact bl_trans _ _ _ (hs i ((lo + hi) / 2) hi' (by omega) (by omega)) hb) hhi
        exact_mod_cast this
      | false =>
        rw [if_neg (by simp)]
        refine ih lo ((lo + hi) / 2) (by omega) (by omega) (by omega) hlo (fun i hi' hge => ?_)
        by_cases e : i = (lo + hi) / 2
        · subst e; exact hb
        · cases hc : Op.bytesLess l[i].toList x.toList with
          | false => rfl
          | true => rw [bl_trans _ _ _ (hs ((lo + hi) / 2) i (by omega) hi' (by omega)) hc] at hb; cases hb
    · have e : lo = hi := by omega
      subst e
      rw [if_neg (by omega)]
      have hnot : (lo = l.length ∨ ∃ h : lo < l.length, l[lo].toList ≠ x.toList) → (l.any fun y => y.toList == x.toList) = false := by
        intro h
        rw [List.any_eq_false]
        intro y hy
        obtain ⟨j, hj, rfl⟩ := List.getElem_of_mem hy
        simp only [beq_iff_eq]
        intro he
        rcases Nat.lt_trichotomy j lo with q | q | q
        · have := hlo j hj q; rw [he, bl_irrefl] at this; cases this
        · subst q
          rcases h with h | ⟨_, h⟩
          · omega
          · exact h he
        · rcases h with h | ⟨h0, h⟩
          · omega
          · have h5 := hs lo j h0 hj q
            rw [he, hhi lo h0 (Nat.le_refl _)] at h5
            cases h5
      by_cases hlen : lo < l.length
      · rw [if_pos (by omega), if_pos (by omega), if_pos (by omega), rdOf_at l _ hlen]
        by_cases he : l[lo].toList = x.toList
        · rw [if_pos he]
          refine ⟨lo, ?_⟩
          rw [List.any_eq_true.2 ⟨l[lo], List.getElem_mem _, by simp [he]⟩]
        · rw [if_neg he, hnot (.inr ⟨hlen, he⟩)]
          simp [slices_isNaN_string.f]
      · rw [if_neg (by omega), hnot (.inl (by omega))]
        simp

/-- all keywords -/
def KW : List ByteArray := kwL ++ [kwB]
theorem KW_sorted : ∀ i j (hi : i < KW.length) (hj : j < KW.length), i < j → Op.bytesLess KW[i].toList KW[j].toList = true := by
  have h : (KW.map (fun b : ByteArray => b.data.toList)).Pairwise (fun a b => Op.bytesLess a b = true) := by
    simp only [KW, kwL, kwB, List.map_append, List.map_cons, List.map_nil, List.cons_append, List.nil_append]
    decide +kernel
  intro i j hi hj hij
  have h2 := List.pairwise_iff_getElem.1 h i j (by simpa using hi) (by simpa using hj) hij
  simpa [Go.ByteArray.toList_eq] using h2
theorem KW_length : KW.length = 25 := by decide
def keywordB (s : ByteArray) : Bool := KW.any fun y => y.toList == s.toList
theorem bs_KW (s : ByteArray) : ∃ r, slices_BinarySearch_string_string.f 100 KW s = some (r, keywordB s) := by
  have h := bs_l0 KW s (by rw [KW_length]; decide) KW_sorted 100 0 KW.length (by omega) (by omega) (by rw [KW_length]; decide) (fun i _ h => by omega) (fun i hi h => by omega)
  simpa [slices_BinarySearch_string_string.f, keywordB] using h
set_option maxRecDepth 100000 in
theorem Keyword_any (s : ByteArray) (w : World) :
    Calls Try.prog 101 #[.string s] w fun e w' => e = .returned (.bool (keywordB s)) ∧ Below w.heap.size w w' := by
  obtain ⟨r, hr⟩ := bs_KW s
  have HR := Lib.hid hr
  clear hr
  go_enter Try.func101, Try.ntmps101
  go_wp2_with fail
  refine (Keywords_any _).mono ?_
  rintro e w1 ⟨v, rfl, hown, hb⟩
  have hR : Kd.R Kd.string 9 w1 w.heap.size (fun _ => True) v KW := Kd.R_of_own hown (fun _ _ => trivial)
  obtain ⟨A, c, rfl, hc, hC⟩ := Kd.R_reads hR
  have HC := Lib.hid (And.intro hc (And.intro hC hb))
  clear hown hb hR hc hC
  go_wp2_with fail
  refine (slices_BinarySearch_string_string.calls 100 A c KW s r (keywordB s) _ HC.out.2.1 HC.out.1 HR.out).mono ?_
  rintro e w2 ⟨rfl, ⟨n2, rfl⟩⟩
  go_wp2
  go_ret
  exact ⟨rfl, pw_below_drewN HC.out.2.2 n2⟩
/-- is a text of signs' bytes none of them? -/
def reservedB (s : ByteArray) : Bool := (name_reserved.f s).getD false
theorem reserved_f (s : ByteArray) : name_reserved.f s = some (reservedB s) := by
  unfold reservedB name_reserved.f
  repeat' split
  all_goals rfl
def oneB (s : ByteArray) : Bool := decide (0 ≤ Lib.indexByte [40, 41, 44, 46, 59, 95] (s.data.toList.headD 0))
def markB (s : ByteArray) : Bool := reservedB s || (decide (s.size = 1) && oneB s)
set_option maxRecDepth 100000 in
theorem Mark_any (s : ByteArray) (w : World) :
    Calls Try.prog 95 #[.string s] w fun e w' => e = .returned (.bool (markB s)) ∧ Drawn0 w w' := by
  have HF := Lib.hid (reserved_f s)
  cases hr : reservedB s
  · rw [hr] at HF
    by_cases h1 : s.size = 1
    · obtain ⟨c, rfl⟩ : ∃ c, s = ⟨#[c]⟩ := by
        obtain ⟨⟨l⟩⟩ := s
        match l, h1 with
        | [c], _ => exact ⟨c, rfl⟩
      clear h1
      have hm : markB ⟨#[c]⟩ = decide (0 ≤ Lib.indexByte [40, 41, 44, 46, 59, 95] c) := by simp [markB, oneB, hr, ByteArray.size]
      have HM := Lib.hid hm
      clear hm hr
      go_enter Try.func95, Try.ntmps95
      go_wp2_with (first | (go_at_call 107; refine (name_reserved.calls _ _ _ HF.out).mono ?_; rintro e w' ⟨rfl, ⟨n1, rfl⟩⟩) | (go_at_call 108; refine (Try.strings_Contains_one _ _ _).mono ?_; rintro e w' ⟨rfl, rfl⟩))
      go_ret
      exact ⟨ret_bool HM.out.symm, ⟨n1, rfl⟩⟩
    · have hm : markB s = false := by simp [markB, hr, h1]
      have HM := Lib.hid hm
      have hb : ((s.size : Int) == 1) = false := beq_eq_false_iff_ne.2 (by omega)
      clear hm hr h1
      go_enter Try.func95, Try.ntmps95
      go_wp2_with (first | (go_at_call 107; refine (name_reserved.calls _ _ _ HF.out).mono ?_; rintro e w' ⟨rfl, ⟨n1, rfl⟩⟩))
      go_ret
      exact ⟨ret_bool HM.out.symm, ⟨n1, rfl⟩⟩
  · rw [hr] at HF
    have hm : markB s = true := by simp [markB, hr]
    have HM := Lib.hid hm
    clear hm hr
    go_enter Try.func95, Try.ntmps95
    go_wp2_with (first | (go_at_call 107; refine (name_reserved.calls _ _ _ HF.out).mono ?_; rintro e w' ⟨rfl, ⟨n1, rfl⟩⟩))
    go_ret
    exact ⟨ret_bool HM.out.symm, ⟨n1, rfl⟩⟩

def kindB (s : ByteArray) : Int :=
  if s.toList = [] then 0
  else if markB s = true then 11
  else if signB (bt s 0) = true ∧ allB signB s = true then 9
  else if bt s 0 = 39 ∧ 1 < s.size ∧ smallB (bt s 1) = true ∧ allB restB s = true then 8
  else if smallB (bt s 0) = false ∧ greatB (bt s 0) = false ∨ allB restB s = false then 0
  else if greatB (bt s 0) = true then 7
  else if keywordB s = true then 10 else 6
theorem toList_pos {s : ByteArray} (h : ¬ s.toList = []) : 0 < s.size := by
  rw [Go.ByteArray.toList_eq] at h
  have h2 : 0 < s.data.toList.length := List.length_pos_iff.2 h
  simpa using h2
set_option maxHeartbeats 4000000 in
set_option maxRecDepth 100000 in
theorem Kind_any (s : ByteArray) (hs : s.size ≤ 9223372036854775807) (w : World) :
    Calls Try.prog 54 #[.string s] w fun e w' => e = .returned (.int .i64 (kindB s)) ∧ Below w.heap.size w w' := by
  by_cases he : s.toList = []
  · have hk : kindB s = 0 := by unfold kindB; rw [if_pos he]
    have HK := Lib.hid hk
    have hemp : s.toList.isEmpty = true := by rw [he]; rfl
    clear hk he
    go_enter Try.func54, Try.ntmps54
    go_wp2
    go_ret
    exact ⟨ret_i64 HK.out.symm, Below.refl _ _⟩
  have hne : s.toList.isEmpty = false := by cases h : s.toList <;> simp_all
  have hpos : 0 < s.size := toList_pos he
  cases hm : markB s
  case neg.true =>
    have hk : kindB s = 11 := by unfold kindB; rw [if_neg he, if_pos hm]
    have HK := Lib.hid hk
    have HM := Lib.hid hm
    clear hk he hm
    go_enter Try.func54, Try.ntmps54
    go_wp2_with (first | (go_at_call 95; refine (Mark_any _ _).mono ?_; rintro e w' ⟨rfl, ⟨n1, rfl⟩⟩; rw [HM.out]))
    go_ret
    exact ⟨ret_i64 HK.out.symm, pw_below_drewN (Below.refl _ _) n1⟩
  have hk : kindB s = if signB (bt s 0) = true ∧ allB signB s = true then 9
      else if bt s 0 = 39 ∧ 1 < s.size ∧ smallB (bt s 1) = true ∧ allB restB s = true then 8
      else if smallB (bt s 0) = false ∧ greatB (bt s 0) = false ∨ allB restB s = false then 0
      else if greatB (bt s 0) = true then 7
      else if keywordB s = true then 10 else 6 := by unfold kindB; rw [if_neg he, if_neg (by rw [hm]; simp)]
  have HK := Lib.hid hk
  have HM := Lib.hid hm
  have hb0 : ∀ h : 0 < s.size, ((s[0]'h).toNat : Int) = bt s 0 := fun h => by simpa using bt_at s 0 (by simpa using h)
  have HB0 := Lib.hid hb0
  have HSZ := Lib.hid hs
  clear hk hm he hb0 hs
  go_enter Try.func54, Try.ntmps54
  go_upto_region 5 with (first | (go_at_call 95; refine (Mark_any _ _).mono ?_; rintro e w' ⟨rfl, ⟨n1, rfl⟩⟩; rw [HM.out]))
  go_cut [9] (fun v wx => v = .bool (signB (bt s 0) && allB signB s) ∧ Below w.heap.size w wx)
  case first =>
    cases h0 : signB (bt s 0)
    · have H0 := Lib.hid h0
      clear h0
      go_wp2_with (first | (go_at_call 96; rw [HB0.out]; refine (sign_any _ _).mono ?_; rintro e w' ⟨rfl, rfl⟩; rw [H0.out]))
      go_meet
      exact ⟨by first | rfl | simp [H0.out], pw_below_drewN (Below.refl _ _) n1⟩
    · have H0 := Lib.hid h0
      clear h0
      go_wp2_with (first | (go_at_call 96; rw [HB0.out]; refine (sign_any _ _).mono ?_; rintro e w' ⟨rfl, rfl⟩; rw [H0.out]) | (go_at_call 97; refine (all_sign _ HSZ.out _).mono ?_; rintro e w' ⟨rfl, rfl⟩))
      go_meet
      exact ⟨by first | rfl | simp [H0.out], pw_below_drewN (Below.refl _ _) n1⟩
  case rest =>
    obtain ⟨rfl, hb⟩ := hcut
    have HBW := Lib.hid hb
    clear hb
    cases h5 : (signB (bt s 0) && allB signB s)
    case true =>
      have hk : kindB s = 9 := by rw [HK.out, if_pos (by simpa using h5)]
      have HK9 := Lib.hid hk
      clear hk h5 HK
      go_wp2
      go_ret
      exact ⟨ret_i64 HK9.out.symm, HBW.out⟩
    have hk := HK.out
    rw [if_neg (by intro h; rw [h.1, h.2] at h5; simp at h5)] at hk
    clear HK h5
    have HK := Lib.hid hk
    clear hk
    go_upto_region 7 with fail
    go_cut [17] (fun v wx => v = .bool (decide (bt s 0 = 39 ∧ 1 < s.size ∧ smallB (bt s 1) = true ∧ allB restB s = true)) ∧ Below w.heap.size w wx)
    case first =>
      have hp1 : ∀ h : 1 < s.size, ((s[1]'h).toNat : Int) = bt s 1 := fun h => by simpa using bt_at s 1 (by simpa using h)
      have HB1 := Lib.hid hp1
      clear hp1
      by_cases h39 : bt s 0 = 39
      · have HE : Hid (∀ h : 0 < s.size, (((s[0]'h).toNat : Int) == 39) = true) := Lib.hid fun h => by rw [HB0.out h, h39]; rfl
        have HE39 := Lib.hid h39
        clear h39
        by_cases hbig : 1 < s.size
        · cases hs1 : smallB (bt s 1)
          all_goals
            have HS1 := Lib.hid hs1
            clear hs1
            have hg : decide ((1 : Int) < s.size) = true := decide_eq_true (by omega)
            have hg2 : decide (1 < s.size) = true := decide_eq_true (by omega)
            have he0 := HE.out hpos
            go_wp2_with (first | (go_at_call 98; rw [HB1.out]; refine (small_any _ _).mono ?_; rintro e w' ⟨rfl, rfl⟩; rw [HS1.out]) | (go_at_call 97; refine (all_rest _ HSZ.out _).mono ?_; rintro e w' ⟨rfl, rfl⟩))
            go_meet
            exact ⟨by simp [HE39.out, HS1.out, hbig], HBW.out⟩
        · have hg : decide ((1 : Int) < s.size) = false := decide_eq_false (by omega)
          have hg2 : decide (1 < s.size) = false := decide_eq_false (by omega)
          have he0 := HE.out hpos
          go_wp2
          go_meet
          exact ⟨by simp [hbig], HBW.out⟩
      · have he0 : (((s[0]'hpos).toNat : Int) == 39) = false := by rw [HB0.out]; exact beq_eq_false_iff_ne.2 h39
        have HN39 := Lib.hid h39
        clear h39
        go_wp2
        go_meet
        exact ⟨by simp [HN39.out], HBW.out⟩
    case rest =>
      clear HBW
      obtain ⟨rfl, hb⟩ := hcut
      have HBW := Lib.hid hb
      clear hb
      by_cases h8 : bt s 0 = 39 ∧ 1 < s.size ∧ smallB (bt s 1) = true ∧ allB restB s = true
      · have hk : kindB s = 8 := by rw [HK.out, if_pos h8]
        have HK8 := Lib.hid hk
        rw [decide_eq_true h8]
        clear hk h8 HK
        go_wp2
        go_ret
        exact ⟨ret_i64 HK8.out.symm, HBW.out⟩
      have hk := HK.out
      rw [if_neg h8] at hk
      clear HK
      have HK := Lib.hid hk
      rw [decide_eq_false h8]
      clear hk h8
      go_upto_region 9 with fail
      go_cut [35] (fun v wx => v = .bool (decide (smallB (bt s 0) = false ∧ greatB (bt s 0) = false ∨ allB restB s = false)) ∧ Below w.heap.size w wx)
      case first =>
        cases hs0 : smallB (bt s 0)
        · cases hg0 : greatB (bt s 0)
          all_goals
            have HS0 := Lib.hid hs0
            have HG0 := Lib.hid hg0
            clear hs0 hg0
            go_wp2_with (first | (go_at_call 98; rw [HB0.out]; refine (small_any _ _).mono ?_; rintro e w' ⟨rfl, rfl⟩; rw [HS0.out]) | (go_at_call 100; rw [HB0.out]; refine (great_any _ _).mono ?_; rintro e w' ⟨rfl, rfl⟩; rw [HG0.out]) | (go_at_call 97; refine (all_rest _ HSZ.out _).mono ?_; rintro e w' ⟨rfl, rfl⟩))
            go_meet
            exact ⟨by simp [HS0.out, HG0.out], HBW.out⟩
        · have HS0 := Lib.hid hs0
          clear hs0
          go_wp2_with (first | (go_at_call 98; rw [HB0.out]; refine (small_any _ _).mono ?_; rintro e w' ⟨rfl, rfl⟩; rw [HS0.out]) | (go_at_call 97; refine (all_rest _ HSZ.out _).mono ?_; rintro e w' ⟨rfl, rfl⟩))
          go_meet
          exact ⟨by simp [HS0.out], HBW.out⟩
      case rest =>
        clear HBW
        obtain ⟨rfl, hb⟩ := hcut
        have HBW := Lib.hid hb
        clear hb
        by_cases h0 : smallB (bt s 0) = false ∧ greatB (bt s 0) = false ∨ allB restB s = false
        · have hk : kindB s = 0 := by rw [HK.out, if_pos h0]
          have HK0 := Lib.hid hk
          rw [decide_eq_true h0]
          clear hk h0 HK
          go_wp2
          go_ret
          exact ⟨ret_i64 HK0.out.symm, HBW.out⟩
        have hk := HK.out
        rw [if_neg h0] at hk
        clear HK
        rw [decide_eq_false h0]
        clear h0
        cases hg0 : greatB (bt s 0)
        · cases hkw : keywordB s
          all_goals
            rw [hg0, if_neg (by simp), hkw] at hk
            have HK := Lib.hid hk
            have HG0 := Lib.hid hg0
            have HKW := Lib.hid hkw
            clear hk hg0 hkw
            go_wp2_with (first | (go_at_call 100; rw [HB0.out]; refine (great_any _ _).mono ?_; rintro e w' ⟨rfl, rfl⟩; rw [HG0.out]) | (go_at_call 101; refine (Keyword_any _ _).mono ?_; rintro e w' ⟨rfl, hbk⟩; rw [HKW.out]; have HBK := Lib.hid hbk; clear hbk))
            go_ret
            exact ⟨ret_i64 (by rw [HK.out]; rfl), below_step HBW.out HBK.out⟩
        · rw [hg0, if_pos rfl] at hk
          have HK := Lib.hid hk
          have HG0 := Lib.hid hg0
          clear hk hg0
          go_wp2_with (first | (go_at_call 100; rw [HB0.out]; refine (great_any _ _).mono ?_; rintro e w' ⟨rfl, rfl⟩; rw [HG0.out]))
          go_ret
          exact ⟨ret_i64 (by rw [HK.out]), HBW.out⟩

def name_Kind.f (a0 : ByteArray) : Option Int := if a0.size ≤ 9223372036854775807 then some (kindB a0) else none
theorem name_Kind.calls (a0 : ByteArray) (r : Int) (w : World) (h : name_Kind.f a0 = some r) :
    Calls Try.prog 54 #[.string a0] w fun e w' => e = .returned (.int .i64 r) ∧ Below w.heap.size w w' := by
  unfold name_Kind.f at h
  by_cases hs : a0.size ≤ 9223372036854775807
  · rw [if_pos hs] at h
    obtain rfl := Option.some.inj h
    exact Kind_any a0 hs w
  · rw [if_neg hs] at h
    cases h

end Go.Proofs.Ytjnhdoaceegkoaa.PGw
