-- WRITTEN BY gprint.py, a program of this session, out of the translation (over the kit's print.py): Lean checks it.
import Derived.Test.YtjnhdoaceegkoaaPGmx0
import Derived.WalkLawsBesides
import Derived.LoopTactic
import Derived.ProofKit
import Derived.Lib.Hide
namespace Go.Proofs.Ytjnhdoaceegkoaa.PGm
open Go.RowKit Go.Proofs.YtjnhdoaceegkoaaW.PrintWords Go.Proofs.YtjnhdoaceegkoaaW.PrintLast Go.Proofs.YtjnhdoaceegkoaaW.PrintMore
attribute [local go_sem] max2_int min2_int max_two min_two max_three min_three max_four min_four   -- for this text's walks alone
set_option linter.unusedVariables false
set_option linter.unusedSimpArgs false

--@given oriel/orielref04.Signs making=0 rounds=0
--@import Derived.WalkLawsBesides
--@import Derived.LoopTactic
--@import Derived.ProofKit
--@import Derived.Lib.Hide
/-! ### orielref04_Signs -/
def sgL : List UInt8 := [33, 37, 38, 36, 35, 43, 45, 47, 58, 60, 61, 62, 63, 64, 94, 124, 42, 126]
def sgB : ByteArray := ⟨sgL.toArray⟩
theorem rs_ret_bool {a b : Bool} (h : a = b) : Ending.returned (.bool a) = .returned (.bool b) := by rw [h]
theorem sg_step (k n : Nat) (c : Int) (h : ∀ x ∈ sgL.take k, (x.toNat : Int) ≠ c) (hn : sgL[k]?.map UInt8.toNat = some n) (hc : (n : Int) ≠ c) : ∀ x ∈ sgL.take (k + 1), (x.toNat : Int) ≠ c := by
  intro x hx
  rw [List.take_add_one] at hx
  rcases List.mem_append.1 hx with h1 | h1
  · exact h x h1
  · cases hk : sgL[k]? with
    | none => rw [hk] at h1; simp at h1
    | some y =>
      rw [hk] at h1 hn
      simp at h1 hn
      subst h1
      rw [hn]; exact hc
set_option maxHeartbeats 4000000 in
set_option maxRecDepth 100000 in
theorem rsigns_any (c : Int) (w : World) :
    Calls Try.prog 91 #[.int .u8 c] w fun e w' => e = .returned (.bool ((sgL.any fun x => (x.toNat : Int) == c) || c == 92 || c == 96)) ∧ w' = w := by
  go_enter Try.func91, Try.ntmps91
  go_wp2
  go_loop [4] (fun i => ∃ k : Nat, k ≤ 18 ∧ i = .int .i64 k ∧ Hid (∀ x ∈ sgL.take k, (x.toNat : Int) ≠ c)) (fun i => 18 - (intOf i).toNat)
  case atStart => exact ⟨0, Nat.zero_le _, rfl, Lib.hid (fun x h => by simp at h)⟩
  case round =>
    obtain ⟨k, hk, rfl, H⟩ := hrel
    rcases (show k = 0 ∨ k = 1 ∨ k = 2 ∨ k = 3 ∨ k = 4 ∨ k = 5 ∨ k = 6 ∨ k = 7 ∨ k = 8 ∨ k = 9 ∨ k = 10 ∨ k = 11 ∨ k = 12 ∨ k = 13 ∨ k = 14 ∨ k = 15 ∨ k = 16 ∨ k = 17 ∨ k = 18 from by omega) with rfl | rfl | rfl | rfl | rfl | rfl | rfl | rfl | rfl | rfl | rfl | rfl | rfl | rfl | rfl | rfl | rfl | rfl | rfl
    · go_wp2
      · rename_i hh _
        have hc : (33 : Int) = c := beq_iff_eq.1 hh
        clear hh
        go_ret
        exact ⟨rs_ret_bool (by rw [← hc]; rfl), rfl⟩
      · rename_i hh
        have hc : (33 : Int) ≠ c := beq_eq_false_iff_ne.1 hh
        exact ⟨⟨1, by omega, rfl, Lib.hid (sg_step 0 33 c H.out rfl hc)⟩, by simp [intOf]⟩
    · go_wp2
      · rename_i hh _
        have hc : (37 : Int) = c := beq_iff_eq.1 hh
        clear hh
        go_ret
        exact ⟨rs_ret_bool (by rw [← hc]; rfl), rfl⟩
      · rename_i hh
        have hc : (37 : Int) ≠ c := beq_eq_false_iff_ne.1 hh
        exact ⟨⟨2, by omega, rfl, Lib.hid (sg_step 1 37 c H.out rfl hc)⟩, by simp [intOf]⟩
    · go_wp2
      · rename_i hh _
        have hc : (38 : Int) = c := beq_iff_eq.1 hh
        clear hh
        go_ret
        exact ⟨rs_ret_bool (by rw [← hc]; rfl), rfl⟩
      · rename_i hh
        have hc : (38 : Int) ≠ c := beq_eq_false_iff_ne.1 hh
        exact ⟨⟨3, by omega, rfl, Lib.hid (sg_step 2 38 c H.out rfl hc)⟩, by simp [intOf]⟩
    · go_wp2
      · rename_i hh _
        have hc : (36 : Int) = c := beq_iff_eq.1 hh
        clear hh
        go_ret
        exact ⟨rs_ret_bool (by rw [← hc]; rfl), rfl⟩
      · rename_i hh
        have hc : (36 : Int) ≠ c := beq_eq_false_iff_ne.1 hh
        exact ⟨⟨4, by omega, rfl, Lib.hid (sg_step 3 36 c H.out rfl hc)⟩, by simp [intOf]⟩
    · go_wp2
      · rename_i hh _
        have hc : (35 : Int) = c := beq_iff_eq.1 hh
        clear hh
        go_ret
        exact ⟨rs_ret_bool (by rw [← hc]; rfl), rfl⟩
      · rename_i hh
        have hc : (35 : Int) ≠ c := beq_eq_false_iff_ne.1 hh
        exact ⟨⟨5, by omega, rfl, Lib.hid (sg_step 4 35 c H.out rfl hc)⟩, by simp [intOf]⟩
    · go_wp2
      · rename_i hh _
        have hc : (43 : Int) = c := beq_iff_eq.1 hh
        clear hh
        go_ret
        exact ⟨rs_ret_bool (by rw [← hc]; rfl), rfl⟩
      · rename_i hh
        have hc : (43 : Int) ≠ c := beq_eq_false_iff_ne.1 hh
        exact ⟨⟨6, by omega, rfl, Lib.hid (sg_step 5 43 c H.out rfl hc)⟩, by simp [intOf]⟩
    · go_wp2
      · rename_i hh _
        have hc : (45 : Int) = c := beq_iff_eq.1 hh
        clear hh
        go_ret
        exact ⟨rs_ret_bool (by rw [← hc]; rfl), rfl⟩
      · rename_i hh
        have hc : (45 : Int) ≠ c := beq_eq_false_iff_ne.1 hh
        exact ⟨⟨7, by omega, rfl, Lib.hid (sg_step 6 45 c H.out rfl hc)⟩, by simp [intOf]⟩
    · go_wp2
      · rename_i hh _
        have hc : (47 : Int) = c := beq_iff_eq.1 hh
        clear hh
        go_ret
        exact ⟨rs_ret_bool (by rw [← hc]; rfl), rfl⟩
      · rename_i hh
        have hc : (47 : Int) ≠ c := beq_eq_false_iff_ne.1 hh
        exact ⟨⟨8, by omega, rfl, Lib.hid (sg_step 7 47 c H.out rfl hc)⟩, by simp [intOf]⟩
    · go_wp2
      · rename_i hh _
        have hc : (58 : Int) = c := beq_iff_eq.1 hh
        clear hh
        go_ret
        exact ⟨rs_ret_bool (by rw [← hc]; rfl), rfl⟩
      · rename_i hh
        have hc : (58 : Int) ≠ c := beq_eq_false_iff_ne.1 hh
        exact ⟨⟨9, by omega, rfl, Lib.hid (sg_step 8 58 c H.out rfl hc)⟩, by simp [intOf]⟩
    · go_wp2
      · rename_i hh _
        have hc : (60 : Int) = c := beq_iff_eq.1 hh
        clear hh
        go_ret
        exact ⟨rs_ret_bool (by rw [← hc]; rfl), rfl⟩
      · rename_i hh
        have hc : (60 : Int) ≠ c := beq_eq_false_iff_ne.1 hh
        exact ⟨⟨10, by omega, rfl, Lib.hid (sg_step 9 60 c H.out rfl hc)⟩, by simp [intOf]⟩
    · go_wp2
      · rename_i hh _
        have hc : (61 : Int) = c := beq_iff_eq.1 hh
        clear hh
        go_ret
        exact ⟨rs_ret_bool (by rw [← hc]; rfl), rfl⟩
      · rename_i hh
        have hc : (61 : Int) ≠ c := beq_eq_false_iff_ne.1 hh
        exact ⟨⟨11, by omega, rfl, Lib.hid (sg_step 10 61 c H.out rfl hc)⟩, by simp [intOf]⟩
    · go_wp2
      · rename_i hh _
        have hc : (62 : Int) = c := beq_iff_eq.1 hh
        clear hh
        go_ret
        exact ⟨rs_ret_bool (by rw [← hc]; rfl), rfl⟩
      · rename_i hh
        have hc : (62 : Int) ≠ c := beq_eq_false_iff_ne.1 hh
        exact ⟨⟨12, by omega, rfl, Lib.hid (sg_step 11 62 c H.out rfl hc)⟩, by simp [intOf]⟩
    · go_wp2
      · rename_i hh _
        have hc : (63 : Int) = c := beq_iff_eq.1 hh
        clear hh
        go_ret
        exact ⟨rs_ret_bool (by rw [← hc]; rfl), rfl⟩
      · rename_i hh
        have hc : (63 : Int) ≠ c := beq_eq_false_iff_ne.1 hh
        exact ⟨⟨13, by omega, rfl, Lib.hid (sg_step 12 63 c H.out rfl hc)⟩, by simp [intOf]⟩
    · go_wp2
      · rename_i hh _
        have hc : (64 : Int) = c := beq_iff_eq.1 hh
        clear hh
        go_ret
        exact ⟨rs_ret_bool (by rw [← hc]; rfl), rfl⟩
      · rename_i hh
        have hc : (64 : Int) ≠ c := beq_eq_false_iff_ne.1 hh
        exact ⟨⟨14, by omega, rfl, Lib.hid (sg_step 13 64 c H.out rfl hc)⟩, by simp [intOf]⟩
    · go_wp2
      · rename_i hh _
        have hc : (94 : Int) = c := beq_iff_eq.1 hh
        clear hh
        go_ret
        exact ⟨rs_ret_bool (by rw [← hc]; rfl), rfl⟩
      · rename_i hh
        have hc : (94 : Int) ≠ c := beq_eq_false_iff_ne.1 hh
        exact ⟨⟨15, by omega, rfl, Lib.hid (sg_step 14 94 c H.out rfl hc)⟩, by simp [intOf]⟩
    · go_wp2
      · rename_i hh _
        have hc : (124 : Int) = c := beq_iff_eq.1 hh
        clear hh
        go_ret
        exact ⟨rs_ret_bool (by rw [← hc]; rfl), rfl⟩
      · rename_i hh
        have hc : (124 : Int) ≠ c := beq_eq_false_iff_ne.1 hh
        exact ⟨⟨16, by omega, rfl, Lib.hid (sg_step 15 124 c H.out rfl hc)⟩, by simp [intOf]⟩
    · go_wp2
      · rename_i hh _
        have hc : (42 : Int) = c := beq_iff_eq.1 hh
        clear hh
        go_ret
        exact ⟨rs_ret_bool (by rw [← hc]; rfl), rfl⟩
      · rename_i hh
        have hc : (42 : Int) ≠ c := beq_eq_false_iff_ne.1 hh
        exact ⟨⟨17, by omega, rfl, Lib.hid (sg_step 16 42 c H.out rfl hc)⟩, by simp [intOf]⟩
    · go_wp2
      · rename_i hh _
        have hc : (126 : Int) = c := beq_iff_eq.1 hh
        clear hh
        go_ret
        exact ⟨rs_ret_bool (by rw [← hc]; rfl), rfl⟩
      · rename_i hh
        have hc : (126 : Int) ≠ c := beq_eq_false_iff_ne.1 hh
        exact ⟨⟨18, by omega, rfl, Lib.hid (sg_step 17 126 c H.out rfl hc)⟩, by simp [intOf]⟩
    · have h1 : (sgL.any fun x => (x.toNat : Int) == c) = false := by
        rw [List.any_eq_false]
        intro x hx
        have := H.out x (by simpa [sgL] using hx)
        simpa using this
      have H1 := Lib.hid h1
      clear h1 H
      go_wp2
      all_goals
        go_ret
        refine ⟨rs_ret_bool ?_, rfl⟩
        first | rfl | (rw [H1.out]; first | rfl | (simp [*]; done))

def orielref04_Signs.f (a0 : Int) : Option Bool := some ((sgL.any fun x => (x.toNat : Int) == a0) || a0 == 92 || a0 == 96)
theorem orielref04_Signs.calls (a0 : Int) (r : Bool) (w : World) (h : orielref04_Signs.f a0 = some r) :
    Calls Try.prog 91 #[.int .u8 a0] w fun e w' => e = .returned (.bool r) ∧ Drawn0 w w' := by
  obtain rfl := Option.some.inj h
  refine (rsigns_any a0 w).mono ?_
  rintro e w' ⟨rfl, rfl⟩
  exact ⟨rfl, Drawn0.refl _⟩

end Go.Proofs.Ytjnhdoaceegkoaa.PGm
