-- WRITTEN BY gprint.py, a program of this session, out of the translation (over the kit's print.py): Lean checks it.
import Derived.Test.YtjnhdoaceegkoaaPMlx0
import Derived.Test.YtjnhdoaceegkoaaPMlx3
import Derived.Maps.Own
import Derived.Maps.OwnOps
import Derived.Maps.OwnSet
import Derived.WalkLawsBesides
import Derived.LoopTactic
import Derived.ProofKit
import Derived.Lib.Hide
import Derived.Deep.DeepCutAuto
import Derived.IntWalk
import Derived.WalkMore
import Derived.Deep.DeepMust
import Derived.Laws.IdiomCopy
import Derived.Test.YtjnhdoaceegkoaaSort
namespace Go.Proofs.Ytjnhdoaceegkoaa.PMl
open Go.RowKit Go.Proofs.YtjnhdoaceegkoaaW.PrintWords Go.Proofs.YtjnhdoaceegkoaaW.PrintLast Go.Proofs.YtjnhdoaceegkoaaW.PrintMore
attribute [local go_sem] max2_int min2_int max_two min_two max_three min_three max_four min_four   -- for this text's walks alone
set_option linter.unusedVariables false
set_option linter.unusedSimpArgs false

--@given oriel/orielref12.Links making=1 rounds=0
--@given oriel/orielref12.Class making=1 rounds=1
--@uses oriel/match.Links
--@import Derived.Maps.Own
--@import Derived.Maps.OwnOps
--@import Derived.Maps.OwnSet
--@import Derived.WalkLawsBesides
--@import Derived.LoopTactic
--@import Derived.ProofKit
--@import Derived.Lib.Hide
--@import Derived.Deep.DeepCutAuto
--@import Derived.IntWalk
--@import Derived.WalkMore
--@import Derived.Deep.DeepMust
--@import Derived.Laws.IdiomCopy
--@import Derived.Test.YtjnhdoaceegkoaaSort
/-! ### orielref12_Class: the document's classes, by hand -/
mutual
def orielref12_Class.l0 : Nat → Int → List S51 → List Int → Int → Option (List Int)
  | 0, _, _, _, _ => none
  | k + 1, n, l, tl, i => if i < n then (if tl.length < 17592186044416 then orielref12_Class.l0 k n l (tl ++ [i]) (wrap64 (i + 1)) else none) else orielref12_Class.l1 k n l tl 0
def orielref12_Class.l1 : Nat → Int → List S51 → List Int → Int → Option (List Int)
  | 0, _, _, _, _ => none
  | k + 1, n, l, tl, j => if j ≤ n then orielref12_Class.l2 k n l tl j 0 else some tl
def orielref12_Class.l2 : Nat → Int → List S51 → List Int → Int → Int → Option (List Int)
  | 0, _, _, _, _, _ => none
  | k + 1, n, l, tl, j, i => if i < (l.length : Int) then (if 0 ≤ i then (
      if (rd_T51 l i).f0 < 0 then orielref12_Class.l2 k n l tl j (wrap64 (i + 1)) else
      if (rd_T51 l i).f1 < 0 then orielref12_Class.l2 k n l tl j (wrap64 (i + 1)) else
      if n ≤ (rd_T51 l i).f0 then orielref12_Class.l2 k n l tl j (wrap64 (i + 1)) else
      if n ≤ (rd_T51 l i).f1 then orielref12_Class.l2 k n l tl j (wrap64 (i + 1)) else
      if (rd_T51 l i).f0 < (tl.length : Int) then (if (rd_T51 l i).f1 < (tl.length : Int) then
        orielref12_Class.l2 k n l ((tl.set (rd_T51 l i).f0.toNat (mn (rd tl (rd_T51 l i).f0) (rd tl (rd_T51 l i).f1))).set (rd_T51 l i).f1.toNat (mn (rd tl (rd_T51 l i).f0) (rd tl (rd_T51 l i).f1))) j (wrap64 (i + 1))
        else none) else none) else none) else orielref12_Class.l1 k n l tl (wrap64 (j + 1))
end
def orielref12_Class.f (k : Nat) (a0 : Int) (l1 : List S51) : Option (List Int) := orielref12_Class.l0 k a0 l1 [] 0
set_option maxHeartbeats 8000000 in
set_option maxRecDepth 100000 in
theorem orielref12_Class.calls (k : Nat) (a0 : Int) (A1 : Option Addr) (c1 : Nat) (l1 : List S51) (r : List Int) (w : World) (hr1 : Kd.C k51 w A1 l1.length l1) (hc1 : l1.length ≤ c1) (h : orielref12_Class.f k a0 l1 = some r) :
    Calls Try.prog 29 #[.int .i64 a0, .slice A1 l1.length c1] w fun e w' => ∃ v0_ : Value, e = .returned (v0_) ∧ Kd.R (Kd.int .i64) 3 w' w.heap.size (fun _ => True) v0_ r ∧ Below w.heap.size w w' := by
  have HR1 := Aside0.mk hr1
  have HC1 := Aside0.mk hc1
  have H' := Aside0.mk h
  clear hr1 hc1 h
  have HB := Aside0.mk (Below.refl w.heap.size w)
  go_enter Try.func29, Try.ntmps29
  go_wp2
  go_loopg [5, 6] k (fun kq v5 v6 w' => ∃ (tl : List Int) (i : Int), v6 = .int .i64 i ∧ Aside0 (orielref12_Class.l0 kq a0 l1 tl i = some r) ∧ Aside0 (Kd.R (Kd.int .i64) 3 w' w.heap.size (fun _ => True) v5 tl) ∧ Aside0 (Below w.heap.size w w'))
  case atStart => exact ⟨[], 0, rfl, H', ⟨Kd.R_nil _ _ _ _ _⟩, HB⟩
  case round =>
    clear H' HB
    obtain ⟨tl, i, rfl, HA, HO, HB⟩ := hrel
    cases gk with
    | zero => exact absurd HA.out (by simp [orielref12_Class.l0])
    | succ k1 =>
      have H := HA.out
      clear HA
      simp only [orielref12_Class.l0] at H
      obtain ⟨A5, c5, rfl⟩ := Kd.R_slice HO.out
      by_cases c0 : i < a0
      · rw [if_pos c0] at H
        by_cases hlen : tl.length < 17592186044416
        · rw [if_pos hlen] at H
          have HH := Aside0.mk H
          have HL := Aside0.mk hlen
          clear H hlen
          go_wp2_with (at_builtin; refine Kd.R_append (Kd.int .i64) (w0 := w) w.heap.size rfl (.tmp 17) (.tmp 19) 38 3 (.int .i64 0) 8 rfl Try.underlying38 gi3 rfl (by decide) (by decide) _ tl i [.int .i64 i] (fun _ => True) (fun _ => False) rfl rfl rfl (fun _ h => h.elim) (fun _ _ => trivial) HO.out HB.out HB.out.size ?hl ?_)
          case hl => have := HL.out; omega
          intro v5 w5 hR5 hB5 hg5 _
          have HR5 := Aside0.mk hR5
          have HB5 := Aside0.mk hB5
          clear hR5 hB5 hg5
          go_wp2
          go_roundg k1
          case rel => exact ⟨tl ++ [i], wrap64 (i + 1), (by first | rfl | (simp; done) | (simp [*]; done)), HH, HR5, HB5⟩
          case measure => omega
        · rw [if_neg hlen] at H
          cases H
      · rw [if_neg c0] at H
        have HH := Aside0.mk H
        clear H
        go_wp2
        obtain ⟨N, hN⟩ : ∃ N, N = tl.length := ⟨_, rfl⟩
        have HN := Aside0.mk hN.symm
        rw [← hN] at HO ⊢
        clear hN
        go_loopg [7] k1 (fun kq v7 w' => ∃ (tl : List Int) (j : Int), v7 = .int .i64 j ∧ Aside0 (kq ≤ k1) ∧ Aside0 (tl.length = N) ∧ Aside0 (orielref12_Class.l1 kq a0 l1 tl j = some r) ∧ Aside0 (Kd.R (Kd.int .i64) 3 w' w.heap.size (fun _ => True) (.slice A5 N c5) tl) ∧ Aside0 (Below w.heap.size w w'))
        case atStart => exact ⟨tl, 0, rfl, ⟨Nat.le_refl _⟩, HN, HH, HO, HB⟩
        case round =>
          clear HH HO HB HN
          obtain ⟨tl, j, rfl, HK1, HN, HA, HO, HB⟩ := hrel
          cases gk with
          | zero => exact absurd HA.out (by simp [orielref12_Class.l1])
          | succ k2 =>
            have H := HA.out
            clear HA
            simp only [orielref12_Class.l1] at H
            by_cases c1 : j ≤ a0
            · rw [if_pos c1] at H
              have HH := Aside0.mk H
              clear H
              go_wp2
              go_loopg [8] k2 (fun kq v8 w' => ∃ (tl : List Int) (i : Int), v8 = .int .i64 i ∧ Aside0 (kq ≤ k2) ∧ Aside0 (tl.length = N) ∧ Aside0 (orielref12_Class.l2 kq a0 l1 tl j i = some r) ∧ Aside0 (Kd.R (Kd.int .i64) 3 w' w.heap.size (fun _ => True) (.slice A5 N c5) tl) ∧ Aside0 (Below w.heap.size w w'))
              case atStart => exact ⟨tl, 0, rfl, ⟨Nat.le_refl _⟩, HN, HH, HO, HB⟩
              case round =>
                clear HH HO HB HN
                obtain ⟨tl, i, rfl, HK2, HN, HA, HO, HB⟩ := hrel
                cases gk with
                | zero => exact absurd HA.out (by simp [orielref12_Class.l2])
                | succ k3 =>
                  have H := HA.out
                  clear HA
                  simp only [orielref12_Class.l2] at H
                  by_cases c2 : i < (l1.length : Int)
                  · rw [if_pos c2] at H
                    by_cases c3 : 0 ≤ i
                    · rw [if_pos c3] at H
                      obtain ⟨ad, e213, hx0, hx1⟩ := at_T51 HR1.out i c3 c2
                      cases e213
                      obtain ⟨p, hp⟩ : ∃ p, p = (rd_T51 l1 i).f0 := ⟨_, rfl⟩
                      obtain ⟨q, hq⟩ : ∃ q, q = (rd_T51 l1 i).f1 := ⟨_, rfl⟩
                      rw [← hp, ← hq] at H
                      rw [← hp] at hx0
                      rw [← hq] at hx1
                      replace hx0 := (HB.out.cell (World.block_lt_of_cell? w _ hx0)).trans hx0
                      replace hx1 := (HB.out.cell (World.block_lt_of_cell? w _ hx1)).trans hx1
                      clear hp hq
                      replace c2 := eq_true c2
                      replace c3 := eq_true c3
                      by_cases d0 : p < 0
                      · rw [if_pos d0] at H
                        have HH := Aside0.mk H
                        clear H
                        have d0' : decide (p < 0) = true := decide_eq_true d0
                        clear d0
                        go_wp2
                        go_quiet (fail)
                        go_wp2
                        go_roundg k3
                        case rel => exact ⟨tl, wrap64 (i + 1), (by first | rfl | (simp; done) | (simp [*]; done)), ⟨by have := HK2.out; omega⟩, HN, HH, ⟨Kd.R_drewN HO.out _⟩, ⟨pw_below_drewN HB.out _⟩⟩
                        case measure => have := HK2.out; omega
                      · rw [if_neg d0] at H
                        have d0' : decide (p < 0) = false := decide_eq_false d0
                        have HD0 := Aside0.mk d0
                        clear d0
                        by_cases d1 : q < 0
                        · rw [if_pos d1] at H
                          have HH := Aside0.mk H
                          clear H
                          have d1' : decide (q < 0) = true := decide_eq_true d1
                          clear d1
                          go_wp2
                          go_quiet (fail)
                          go_wp2
                          go_roundg k3
                          case rel => exact ⟨tl, wrap64 (i + 1), (by first | rfl | (simp; done) | (simp [*]; done)), ⟨by have := HK2.out; omega⟩, HN, HH, ⟨Kd.R_drewN HO.out _⟩, ⟨pw_below_drewN HB.out _⟩⟩
                          case measure => have := HK2.out; omega
                        · rw [if_neg d1] at H
                          have d1' : decide (q < 0) = false := decide_eq_false d1
                          have HD1 := Aside0.mk d1
                          clear d1
                          by_cases d2 : a0 ≤ p
                          · rw [if_pos d2] at H
                            have HH := Aside0.mk H
                            clear H
                            have d2' : decide (a0 ≤ p) = true := decide_eq_true d2
                            clear d2
                            go_wp2
                            go_quiet (fail)
                            go_wp2
                            go_roundg k3
                            case rel => exact ⟨tl, wrap64 (i + 1), (by first | rfl | (simp; done) | (simp [*]; done)), ⟨by have := HK2.out; omega⟩, HN, HH, ⟨Kd.R_drewN HO.out _⟩, ⟨pw_below_drewN HB.out _⟩⟩
                            case measure => have := HK2.out; omega
                          · rw [if_neg d2] at H
                            have d2' : decide (a0 ≤ p) = false := decide_eq_false d2
                            clear d2
                            by_cases d3 : a0 ≤ q
                            · rw [if_pos d3] at H
                              have HH := Aside0.mk H
                              clear H
                              have d3' : decide (a0 ≤ q) = true := decide_eq_true d3
                              clear d3
                              go_wp2
                              go_quiet (fail)
                              go_wp2
                              go_roundg k3
                              case rel => exact ⟨tl, wrap64 (i + 1), (by first | rfl | (simp; done) | (simp [*]; done)), ⟨by have := HK2.out; omega⟩, HN, HH, ⟨Kd.R_drewN HO.out _⟩, ⟨pw_below_drewN HB.out _⟩⟩
                              case measure => have := HK2.out; omega
                            · rw [if_neg d3] at H
                              have d3' : decide (a0 ≤ q) = false := decide_eq_false d3
                              clear d3
                              by_cases d4 : p < (tl.length : Int)
                              · rw [if_pos d4] at H
                                by_cases d5 : q < (tl.length : Int)
                                · rw [if_pos d5] at H
                                  have b0 : 0 ≤ p := by have := HD0.out; omega
                                  have b1 : 0 ≤ q := by have := HD1.out; omega
                                  obtain ⟨m, hm⟩ : ∃ m, mn (rd tl p) (rd tl q) = m := ⟨_, rfl⟩
                                  rw [hm] at H
                                  have hm_ : (if rd tl q < rd tl p then rd tl q else rd tl p) = m := hm
                                  obtain ⟨gg, cap, e5, _⟩ := Kd.R_form HO.out (by omega)
                                  have hNn := (Kd.R_reads' HO.out).1
                                  injection e5 with e5 e6 e7
                                  subst e5
                                  clear e6 e7
                                  obtain ⟨ad5, e5, hy0⟩ := Kd.at_int (Kd.R_reads' HO.out).2.2 p b0 d4
                                  cases e5
                                  obtain ⟨ad5, e5, hy1⟩ := Kd.at_int (Kd.R_reads' HO.out).2.2 q b1 d5
                                  cases e5
                                  rw [add_plain] at hy0 hy1
                                  rw [← hNn] at d4 d5
                                  obtain ⟨_, _, _, _, hfr0⟩ := Kd.R_elem HO.out 0 p b0 d4
                                  obtain ⟨_, _, _, _, hfr1⟩ := Kd.R_elem HO.out 0 q b1 d5
                                  have fr0 := hfr0 0
                                  have fr1 := hfr1 0
                                  rw [show p.toNat * (Kd.int .i64).sz + 0 = p.toNat by show p.toNat * 1 + 0 = p.toNat; omega] at fr0
                                  rw [show q.toNat * (Kd.int .i64).sz + 0 = q.toNat by show q.toNat * 1 + 0 = q.toNat; omega] at fr1
                                  have HH := Aside0.mk H
                                  clear H hm hfr0 hfr1 hNn HD0 HD1
                                  replace d4 := eq_true d4
                                  replace d5 := eq_true d5
                                  replace b0 := eq_true b0
                                  replace b1 := eq_true b1
                                  go_wp2
                                  go_quiet (fail)
                                  go_wp2
                                  go_quiet (fail)
                                  go_upto_region 16 with fail
                                  generalize hW : (World.drewN _ _).setCell ⟨gg, p.toNat, none⟩ (.int .i64 m) = W1
                                  have hO1 : Kd.R (Kd.int .i64) 3 W1 w.heap.size (fun _ => True) (.slice (some ⟨gg, 0, none⟩) N c5) (tl.set p.toNat m) := by rw [← hW]; exact Kd.R_putn (Kd.R_drewN HO.out _) p m
                                  have hB1 : Below w.heap.size w W1 := by rw [← hW]; exact below_set (pw_below_drewN HB.out _) (Kd.R_base HO.out gg (by simp [Value.ownBlock]))
                                  clear hW hy0 hy1 fr0 fr1 hm_
                                  have q5 := (of_eq_true d5)
                                  have q1 := (of_eq_true b1)
                                  obtain ⟨ad5, e5, hy1⟩ := Kd.at_int (Kd.R_reads' hO1).2.2 q q1 (by have := (Kd.R_reads' hO1).1; omega)
                                  cases e5
                                  rw [add_plain] at hy1
                                  obtain ⟨_, _, _, _, hfr1⟩ := Kd.R_elem hO1 0 q q1 q5
                                  have fr1 := hfr1 0
                                  rw [show q.toNat * (Kd.int .i64).sz + 0 = q.toNat by show q.toNat * 1 + 0 = q.toNat; omega] at fr1
                                  have HO1 := Aside0.mk hO1
                                  have HB1 := Aside0.mk hB1
                                  clear hO1 hB1 hfr1 q5 q1 HO HB
                                  go_wp2
                                  go_roundg k3
                                  case rel => exact ⟨(tl.set p.toNat m).set q.toNat m, wrap64 (i + 1), (by first | rfl | (simp; done) | (simp [*]; done)), ⟨by have := HK2.out; omega⟩, ⟨by have := HN.out; simp; omega⟩, HH, ⟨Kd.R_putn HO1.out q m⟩, ⟨below_set HB1.out (Kd.R_base HO1.out gg (by simp [Value.ownBlock]))⟩⟩
                                  case measure => have := HK2.out; omega
                                · rw [if_neg d5] at H
                                  cases H
                              · rw [if_neg d4] at H
                                cases H
                    · rw [if_neg c3] at H
                      cases H
                  · rw [if_neg c2] at H
                    have HH := Aside0.mk H
                    clear H
                    go_wp2
                    go_roundg k3
                    case rel => exact ⟨tl, wrap64 (j + 1), (by first | rfl | (simp; done) | (simp [*]; done)), ⟨by have := HK1.out; have := HK2.out; omega⟩, HN, HH, HO, HB⟩
                    case measure => have := HK1.out; have := HK2.out; omega
            · rw [if_neg c1] at H
              obtain rfl := Option.some.inj H
              clear H
              go_wp2
              go_ret
              exact ⟨_, rfl, HO.out, HB.out⟩
/-! ### orielref12_Links: the document's links, by hand -/
def gtP (p : S51) (out : List S51) (kk : Nat) : Bool := match kk with
  | 0 => false
  | j + 1 => ltP p (atP out j)
def back (out : List S51) (p : S51) : Nat → Nat
  | 0 => 0
  | j + 1 => if ltP p (atP out j) = true then back out p j else j + 1
def isP (p : S51) (out : List S51) (kk : Nat) : Bool := p.f0 == p.f1 || (match kk with
  | 0 => false
  | j + 1 => sameP (atP out j) p)
def ins12 (out : List S51) (p : S51) : List S51 := if isP p out (back out p out.length) = true then out else out.take (back out p out.length) ++ [p] ++ out.drop (back out p out.length)
def rlinks (l : List S51) : List S51 := l.foldl (fun out p => ins12 out (nrm p)) []
theorem back_le (out : List S51) (p : S51) : ∀ k, back out p k ≤ k
  | 0 => Nat.le_refl _
  | j + 1 => by
    have := back_le out p j
    unfold back
    split <;> omega
theorem ins12_len (out : List S51) (p : S51) : (ins12 out p).length ≤ out.length + 1 := by
  have := back_le out p out.length
  unfold ins12
  split
  · omega
  · simp; omega
theorem rlinks_take (l : List S51) (i : Nat) (hi : i < l.length) : rlinks (l.take (i + 1)) = ins12 (rlinks (l.take i)) (nrm (rd_T51 l i)) := by
  have e : rd_T51 l i = l[i] := by simp [rd_T51, hi]
  rw [List.take_succ_eq_append_getElem hi, e]
  unfold rlinks
  rw [List.foldl_append]
  rfl
theorem rlinks_len (l : List S51) : (rlinks l).length ≤ l.length := by
  have : ∀ (m : List S51) (out : List S51), (m.foldl (fun out p => ins12 out (nrm p)) out).length ≤ out.length + m.length := by
    intro m
    induction m with
    | nil => intro out; simp
    | cons p m ih =>
      intro out
      have h1 := ih (ins12 out (nrm p))
      have h2 := ins12_len out (nrm p)
      simp only [List.foldl_cons, List.length_cons]
      omega
  have h := this l []
  simpa [rlinks] using h
def orielref12_Links.f (l0 : List S51) : Option (List S51) := if l0.length < 1000000 then some (rlinks l0) else none
def rlk.T5 : Bool × List (List Nat × List Nat) := (true, [([], []), ([], []), ([0, 1], [0, 1]), ([2], [2]), ([3], [3]), ([], []), ([], []), ([5, 6], [5, 6]), ([7], [7]), ([8], [8]), ([4, 9], [4, 9]), ([], []), ([], []), ([11, 12], [11, 12]), ([13], [13]), ([14], [14]), ([], []), ([], []), ([16, 17], [16, 17]), ([18], [18]), ([19], [19]), ([15, 20], [15, 20]), ([10, 21], [10, 21]), ([], []), ([23, 22, 0, 1, 2, 3, 4, 5, 6, 7, 8, 9, 10, 11, 12, 13, 14, 15, 16, 17, 18, 19, 20, 21, 22, 23], [22, 23])])
def rlk.B5 : List Nat := [0, 0, 3, 7, 15, 0, 0, 96, 224, 480, 1023, 0, 0, 6144, 14336, 30720, 0, 0, 196608, 458752, 983040, 2095104, 4194303, 0, 16777215]
theorem rlk.tab5 : rtab .any (opsOf Try.f27 5) = rlk.T5 := by kernel_rfl
theorem rlk.bits5 : waitsOk rlk.T5.2 rlk.B5 = true := by kernel_rfl
attribute [local go_sem high] eqG51
set_option linter.unusedSimpArgs false in
set_option maxHeartbeats 8000000 in
set_option maxRecDepth 100000 in
theorem orielref12_Links.calls (A0 : Option Addr) (c0 : Nat) (l0 : List S51) (r : List S51) (w : World) (hr0 : Kd.C k51 w A0 l0.length l0) (hc0 : l0.length ≤ c0) (h : orielref12_Links.f l0 = some r) :
    Calls Try.prog 27 #[.slice A0 l0.length c0] w fun e w' => ∃ v0_ : Value, e = .returned (v0_) ∧ Kd.R k51 51 w' w.heap.size (fun _ => True) v0_ r ∧ Below w.heap.size w w' := by
  have HR0 := Aside0.mk hr0
  have HC0 := Aside0.mk hc0
  unfold orielref12_Links.f at h
  by_cases hlen : l0.length < 1000000
  · rw [if_pos hlen] at h
    obtain rfl := Option.some.inj h
    clear h hr0 hc0
    have hu51 := Try.underlying51
    have HB := Aside0.mk (Below.refl w.heap.size w)
    go_enter Try.func27, Try.ntmps27
    go_wp2
    go_loopw [3, 4] (fun v3 v4 w' => ∃ i : Nat, i ≤ l0.length ∧ v4 = .int .i64 (i : Int) ∧ Aside0 (Kd.R k51 51 w' w.heap.size (fun _ => True) v3 (rlinks (l0.take i))) ∧ Aside0 (Below w.heap.size w w')) (fun _ v4 _ => l0.length - (intOf v4).toNat)
    case atStart => exact ⟨0, Nat.zero_le _, rfl, ⟨Kd.R_nil _ _ _ _ _⟩, HB⟩
    case round =>
      clear HB
      obtain ⟨i, hi, rfl, HO, HB⟩ := hrel
      by_cases c1 : i < l0.length
      · have c1i : (i : Int) < (l0.length : Int) := by omega
        obtain ⟨ad, e213, hx0, hx1⟩ := at_T51 HR0.out (i : Int) (by omega) c1i
        cases e213
        rw [Int.toNat_natCast] at hx0 hx1
        have hw0 := hx0
        have hw1 := hx1
        replace hx0 := (HB.out.cell (World.block_lt_of_cell? w _ hx0)).trans hx0
        replace hx1 := (HB.out.cell (World.block_lt_of_cell? w _ hx1)).trans hx1
        have HT := Aside0.mk (rlinks_take l0 i c1)
        have HOL := Aside0.mk (rlinks_len (l0.take i))
        obtain ⟨x, hx⟩ : ∃ x, x = rd_T51 l0 i := ⟨_, rfl⟩
        obtain ⟨out, hout⟩ : ∃ out, out = rlinks (l0.take i) := ⟨_, rfl⟩
        rw [← hx] at HT hx0 hx1 hw0 hw1
        rw [← hout] at HT HO HOL
        clear hx hout
        obtain ⟨m, hm⟩ : ∃ m, mn x.f0 x.f1 = m := ⟨_, rfl⟩
        obtain ⟨M, hM⟩ : ∃ M, mx x.f0 x.f1 = M := ⟨_, rfl⟩
        have hm_ : (if x.f1 < x.f0 then x.f1 else x.f0) = m := hm
        have hM_ : (if x.f0 < x.f1 then x.f1 else x.f0) = M := hM
        have HN := Aside0.mk (show nrm x = ⟨m, M⟩ by unfold nrm; rw [hm, hM])
        clear hm hM
        obtain ⟨A3, c3, rfl⟩ := Kd.R_slice HO.out
        have HW := Aside0.mk (And.intro hw0 hw1)
        clear hw0 hw1
        go_wp2
        refine start_ (n := 25) (S := fun w' => w'.cell? (ad.add (i * 2)) = some (.int .i64 x.f0) ∧ w'.cell? ⟨(ad.add (i * 2)).block, (ad.add (i * 2)).off + 1, none⟩ = some (.int .i64 x.f1)) (ds := [24]) #[false, false, false, false, false, false, false, false, false, false, false, false, false, false, false, false, false, false, false, false, false, false, false, false, false] (by kernel_rfl) rfl rfl ⟨hx0, hx1⟩ (fun hHeld => ?_)
        refine with_tabW rlk.tab5 rlk.bits5 (fun HT_ HW_ => ?_)
        refine pure_ (i := 0) (N := some 14) (v := ?_) (a' := ?_) #[true, false, false, false, false, false, false, false, false, false, false, false, false, false, false, false, false, false, false, false, false, false, false, false, false] rfl rfl (any_of HT_.out (by kernel_rfl)) (fun _ _ _ h => h) (Or.inl ⟨by rfl, ?_⟩) ?_ ?_
        rotate_left
        · intro w'
          go_simp
          with_reducible rfl
        rotate_left
        · simp only [Act.put, List.setIfInBounds_toArray, List.set_cons_zero, List.set_cons_succ, i64_w, i32_w]
          rfl
        refine pure_ (i := 1) (N := some 15) (v := ?_) (a' := ?_) #[true, true, false, false, false, false, false, false, false, false, false, false, false, false, false, false, false, false, false, false, false, false, false, false, false] rfl rfl (any_of HT_.out (by kernel_rfl)) (fun _ _ _ h => h) (Or.inl ⟨by rfl, ?_⟩) ?_ ?_
        rotate_left
        · intro w'
          go_simp
          with_reducible rfl
        rotate_left
        · simp only [Act.put, List.setIfInBounds_toArray, List.set_cons_zero, List.set_cons_succ, i64_w, i32_w]
          rfl
        refine pure_ (i := 2) (N := some 16) (v := ?_) (a' := ?_) #[true, true, true, false, false, false, false, false, false, false, false, false, false, false, false, false, false, false, false, false, false, false, false, false, false] rfl rfl (any_of HT_.out (by kernel_rfl)) (fun _ _ _ h => h) (Or.inl ⟨by rfl, ?_⟩) ?_ ?_
        rotate_left
        · intro w'
          go_simp
          with_reducible rfl
        rotate_left
        · simp only [Act.put, List.setIfInBounds_toArray, List.set_cons_zero, List.set_cons_succ, i64_w, i32_w]
          rfl
        refine pure_ (i := 3) (N := some 17) (v := ?_) (a' := ?_) #[true, true, true, true, false, false, false, false, false, false, false, false, false, false, false, false, false, false, false, false, false, false, false, false, false] rfl rfl (any_of HT_.out (by kernel_rfl)) (fun _ _ _ h => h) (Or.inl ⟨by rfl, ?_⟩) ?_ ?_
        rotate_left
        · intro w'
          go_simp
          with_reducible rfl
        rotate_left
        · simp only [Act.put, List.setIfInBounds_toArray, List.set_cons_zero, List.set_cons_succ, i64_w, i32_w]
          rfl
        refine take_ (i := 4) (N := some 18) (v := ?_) (a' := ?_) #[true, true, true, true, true, false, false, false, false, false, false, false, false, false, false, false, false, false, false, false, false, false, false, false, false] rfl rfl (take_ofW HT_.out HW_.out (by kernel_rfl)) (fun _ _ _ h => h) (Or.inl ⟨by rfl, ?_⟩) hHeld ?_ ?_
        rotate_left
        · rintro w' ⟨s0, s1⟩
          go_simp
          with_reducible rfl
        rotate_left
        · simp only [Act.put, List.setIfInBounds_toArray, List.set_cons_zero, List.set_cons_succ, i64_w, i32_w]
          rfl
        refine pure_ (i := 5) (N := some 19) (v := ?_) (a' := ?_) #[true, true, true, true, true, true, false, false, false, false, false, false, false, false, false, false, false, false, false, false, false, false, false, false, false] rfl rfl (any_of HT_.out (by kernel_rfl)) (fun _ _ _ h => h) (Or.inl ⟨by rfl, ?_⟩) ?_ ?_
        rotate_left
        · intro w'
          go_simp
          with_reducible rfl
        rotate_left
        · simp only [Act.put, List.setIfInBounds_toArray, List.set_cons_zero, List.set_cons_succ, i64_w, i32_w]
          rfl
        refine pure_ (i := 6) (N := some 20) (v := ?_) (a' := ?_) #[true, true, true, true, true, true, true, false, false, false, false, false, false, false, false, false, false, false, false, false, false, false, false, false, false] rfl rfl (any_of HT_.out (by kernel_rfl)) (fun _ _ _ h => h) (Or.inl ⟨by rfl, ?_⟩) ?_ ?_
        rotate_left
        · intro w'
          go_simp
          with_reducible rfl
        rotate_left
        · simp only [Act.put, List.setIfInBounds_toArray, List.set_cons_zero, List.set_cons_succ, i64_w, i32_w]
          rfl
        refine pure_ (i := 7) (N := some 21) (v := ?_) (a' := ?_) #[true, true, true, true, true, true, true, true, false, false, false, false, false, false, false, false, false, false, false, false, false, false, false, false, false] rfl rfl (any_of HT_.out (by kernel_rfl)) (fun _ _ _ h => h) (Or.inl ⟨by rfl, ?_⟩) ?_ ?_
        rotate_left
        · intro w'
          go_simp
          with_reducible rfl
        rotate_left
        · simp only [Act.put, List.setIfInBounds_toArray, List.set_cons_zero, List.set_cons_succ, i64_w, i32_w]
          rfl
        refine pure_ (i := 8) (N := some 22) (v := ?_) (a' := ?_) #[true, true, true, true, true, true, true, true, true, false, false, false, false, false, false, false, false, false, false, false, false, false, false, false, false] rfl rfl (any_of HT_.out (by kernel_rfl)) (fun _ _ _ h => h) (Or.inl ⟨by rfl, ?_⟩) ?_ ?_
        rotate_left
        · intro w'
          go_simp
          with_reducible rfl
        rotate_left
        · simp only [Act.put, List.setIfInBounds_toArray, List.set_cons_zero, List.set_cons_succ, i64_w, i32_w]
          rfl
        refine take_ (i := 9) (N := some 23) (v := ?_) (a' := ?_) #[true, true, true, true, true, true, true, true, true, true, false, false, false, false, false, false, false, false, false, false, false, false, false, false, false] rfl rfl (take_ofW HT_.out HW_.out (by kernel_rfl)) (fun _ _ _ h => h) (Or.inl ⟨by rfl, ?_⟩) hHeld ?_ ?_
        rotate_left
        · rintro w' ⟨s0, s1⟩
          go_simp
          with_reducible rfl
        rotate_left
        · simp only [Act.put, List.setIfInBounds_toArray, List.set_cons_zero, List.set_cons_succ, i64_w, i32_w]
          rfl
        refine pure_ (i := 10) (N := some 24) (v := ?_) (a' := ?_) #[true, true, true, true, true, true, true, true, true, true, true, false, false, false, false, false, false, false, false, false, false, false, false, false, false] rfl rfl (any_of HT_.out (by kernel_rfl)) (fun _ _ _ h => h) (Or.inl ⟨by rfl, ?_⟩) ?_ ?_
        rotate_left
        · intro w'
          go_simp
          with_reducible rfl
        rotate_left
        · simp only [Act.put, List.setIfInBounds_toArray, List.set_cons_zero, List.set_cons_succ, i64_w, i32_w]
          rfl
        refine pure_ (i := 11) (N := some 25) (v := ?_) (a' := ?_) #[true, true, true, true, true, true, true, true, true, true, true, true, false, false, false, false, false, false, false, false, false, false, false, false, false] rfl rfl (any_of HT_.out (by kernel_rfl)) (fun _ _ _ h => h) (Or.inl ⟨by rfl, ?_⟩) ?_ ?_
        rotate_left
        · intro w'
          go_simp
          with_reducible rfl
        rotate_left
        · simp only [Act.put, List.setIfInBounds_toArray, List.set_cons_zero, List.set_cons_succ, i64_w, i32_w]
          rfl
        refine pure_ (i := 12) (N := some 26) (v := ?_) (a' := ?_) #[true, true, true, true, true, true, true, true, true, true, true, true, true, false, false, false, false, false, false, false, false, false, false, false, false] rfl rfl (any_of HT_.out (by kernel_rfl)) (fun _ _ _ h => h) (Or.inl ⟨by rfl, ?_⟩) ?_ ?_
        rotate_left
        · intro w'
          go_simp
          with_reducible rfl
        rotate_left
        · simp only [Act.put, List.setIfInBounds_toArray, List.set_cons_zero, List.set_cons_succ, i64_w, i32_w]
          rfl
        refine pure_ (i := 13) (N := some 27) (v := ?_) (a' := ?_) #[true, true, true, true, true, true, true, true, true, true, true, true, true, true, false, false, false, false, false, false, false, false, false, false, false] rfl rfl (any_of HT_.out (by kernel_rfl)) (fun _ _ _ h => h) (Or.inl ⟨by rfl, ?_⟩) ?_ ?_
        rotate_left
        · intro w'
          go_simp
          with_reducible rfl
        rotate_left
        · simp only [Act.put, List.setIfInBounds_toArray, List.set_cons_zero, List.set_cons_succ, i64_w, i32_w]
          rfl
        refine pure_ (i := 14) (N := some 28) (v := ?_) (a' := ?_) #[true, true, true, true, true, true, true, true, true, true, true, true, true, true, true, false, false, false, false, false, false, false, false, false, false] rfl rfl (any_of HT_.out (by kernel_rfl)) (fun _ _ _ h => h) (Or.inl ⟨by rfl, ?_⟩) ?_ ?_
        rotate_left
        · intro w'
          go_simp
          with_reducible rfl
        rotate_left
        · simp only [Act.put, List.setIfInBounds_toArray, List.set_cons_zero, List.set_cons_succ, i64_w, i32_w]
          rfl
        refine take_ (i := 15) (N := some 29) (v := ?_) (a' := ?_) #[true, true, true, true, true, true, true, true, true, true, true, true, true, true, true, true, false, false, false, false, false, false, false, false, false] rfl rfl (take_ofW HT_.out HW_.out (by kernel_rfl)) (fun _ _ _ h => h) (Or.inl ⟨by rfl, ?_⟩) hHeld ?_ ?_
        rotate_left
        · rintro w' ⟨s0, s1⟩
          go_simp
          with_reducible rfl
        rotate_left
        · simp only [Act.put, List.setIfInBounds_toArray, List.set_cons_zero, List.set_cons_succ, i64_w, i32_w]
          rfl
        refine pure_ (i := 16) (N := some 30) (v := ?_) (a' := ?_) #[true, true, true, true, true, true, true, true, true, true, true, true, true, true, true, true, true, false, false, false, false, false, false, false, false] rfl rfl (any_of HT_.out (by kernel_rfl)) (fun _ _ _ h => h) (Or.inl ⟨by rfl, ?_⟩) ?_ ?_
        rotate_left
        · intro w'
          go_simp
          with_reducible rfl
        rotate_left
        · simp only [Act.put, List.setIfInBounds_toArray, List.set_cons_zero, List.set_cons_succ, i64_w, i32_w]
          rfl
        refine pure_ (i := 17) (N := some 31) (v := ?_) (a' := ?_) #[true, true, true, true, true, true, true, true, true, true, true, true, true, true, true, true, true, true, false, false, false, false, false, false, false] rfl rfl (any_of HT_.out (by kernel_rfl)) (fun _ _ _ h => h) (Or.inl ⟨by rfl, ?_⟩) ?_ ?_
        rotate_left
        · intro w'
          go_simp
          with_reducible rfl
        rotate_left
        · simp only [Act.put, List.setIfInBounds_toArray, List.set_cons_zero, List.set_cons_succ, i64_w, i32_w]
          rfl
        refine pure_ (i := 18) (N := some 32) (v := ?_) (a' := ?_) #[true, true, true, true, true, true, true, true, true, true, true, true, true, true, true, true, true, true, true, false, false, false, false, false, false] rfl rfl (any_of HT_.out (by kernel_rfl)) (fun _ _ _ h => h) (Or.inl ⟨by rfl, ?_⟩) ?_ ?_
        rotate_left
        · intro w'
          go_simp
          with_reducible rfl
        rotate_left
        · simp only [Act.put, List.setIfInBounds_toArray, List.set_cons_zero, List.set_cons_succ, i64_w, i32_w]
          rfl
        refine pure_ (i := 19) (N := some 33) (v := ?_) (a' := ?_) #[true, true, true, true, true, true, true, true, true, true, true, true, true, true, true, true, true, true, true, true, false, false, false, false, false] rfl rfl (any_of HT_.out (by kernel_rfl)) (fun _ _ _ h => h) (Or.inl ⟨by rfl, ?_⟩) ?_ ?_
        rotate_left
        · intro w'
          go_simp
          with_reducible rfl
        rotate_left
        · simp only [Act.put, List.setIfInBounds_toArray, List.set_cons_zero, List.set_cons_succ, i64_w, i32_w]
          rfl
        refine take_ (i := 20) (N := some 34) (v := ?_) (a' := ?_) #[true, true, true, true, true, true, true, true, true, true, true, true, true, true, true, true, true, true, true, true, true, false, false, false, false] rfl rfl (take_ofW HT_.out HW_.out (by kernel_rfl)) (fun _ _ _ h => h) (Or.inl ⟨by rfl, ?_⟩) hHeld ?_ ?_
        rotate_left
        · rintro w' ⟨s0, s1⟩
          go_simp
          with_reducible rfl
        rotate_left
        · simp only [Act.put, List.setIfInBounds_toArray, List.set_cons_zero, List.set_cons_succ, i64_w, i32_w]
          rfl
        refine pure_ (i := 21) (N := some 35) (v := ?_) (a' := ?_) #[true, true, true, true, true, true, true, true, true, true, true, true, true, true, true, true, true, true, true, true, true, true, false, false, false] rfl rfl (any_of HT_.out (by kernel_rfl)) (fun _ _ _ h => h) (Or.inl ⟨by rfl, ?_⟩) ?_ ?_
        rotate_left
        · intro w'
          go_simp
          with_reducible rfl
        rotate_left
        · simp only [Act.put, List.setIfInBounds_toArray, List.set_cons_zero, List.set_cons_succ, i64_w, i32_w]
          rfl
        refine pure_ (i := 22) (N := some 36) (v := ?_) (a' := ?_) #[true, true, true, true, true, true, true, true, true, true, true, true, true, true, true, true, true, true, true, true, true, true, true, false, false] rfl rfl (any_of HT_.out (by kernel_rfl)) (fun _ _ _ h => h) (Or.inl ⟨by rfl, ?_⟩) ?_ ?_
        rotate_left
        · intro w'
          go_simp
          with_reducible rfl
        rotate_left
        · simp only [Act.put, List.setIfInBounds_toArray, List.set_cons_zero, List.set_cons_succ, i64_w, i32_w]
          rfl
        refine one_ (i := 23) (N := some 5) #[true, true, true, true, true, true, true, true, true, true, true, true, true, true, true, true, true, true, true, true, true, true, true, true, false] rfl rfl (one_of HT_.out (by kernel_rfl)) (by decide) (fun K hK => ?_)
        refine value_ (w1 := ?_) (v := ?_) (by rfl) rfl ?_ ?_
        rotate_left 2
        · go_simp
          constructor
          · rfl
          · rfl
        refine hK.out _ _ ⟨pw_cell_below (below_alloc (Below.refl _ _) _) hHeld.1, pw_cell_below (below_alloc (Below.refl _ _) _) hHeld.2⟩ (fun hHeld => ?_)
        clear hK K
        refine norm_ (a' := ?_) ?_ ?_
        rotate_left
        · show Act.put _ (some 5) _ = _
          simp only [Act.put, List.setIfInBounds_toArray, List.set_cons_zero, List.set_cons_succ, i64_w, i32_w]
          rfl
        refine last_ (i := 24) (N := none) #[true, true, true, true, true, true, true, true, true, true, true, true, true, true, true, true, true, true, true, true, true, true, true, true, true] rfl rfl (one_of HT_.out (by kernel_rfl)) (by decide) (fun K hK => ?_)
        refine skip_ (w1 := ?_) (by rfl) rfl ?_ ?_
        rotate_left
        · go_simp
          rfl
        refine hK.out _ _ ?_
        clear hK K
        refine done_ (done_of HT_.out (by kernel_rfl)) ?_
        clear HT_ HW_
        have hbx := blk_new wr (.cells #[.int .i64 m, .int .i64 M] 51)
        have hbb := below_drew (below_alloc (Below.refl _ wr) (.cells #[.int .i64 m, .int .i64 M] 51))
        have hO5 := Kd.R_below HO.out hbb
        have hB5 := below_then HB.out HB.out.size hbb
        have hbx5 : (wr.alloc (.cells #[.int .i64 m, .int .i64 M] 51)).drew.heap[wr.heap.size]? = some (.cells #[.int .i64 m, .int .i64 M] 51 (0, 0)) := hbx
        generalize (wr.alloc (.cells #[.int .i64 m, .int .i64 M] 51)).drew = w5 at hO5 hB5 hbx5 hHeld ⊢
        generalize wr.heap.size = b5 at hbx5 ⊢
        have HO5 := Aside0.mk hO5
        have HB5 := Aside0.mk hB5
        have HBX := Aside0.mk hbx5
        clear hbx hbb hO5 hB5 hbx5 hHeld HO HB hx0 hx1 hm_ hM_
        obtain ⟨p, hp⟩ : ∃ p : S51, p = ⟨m, M⟩ := ⟨_, rfl⟩
        have hpm : m = p.f0 := by rw [hp]
        have hpM : M = p.f1 := by rw [hp]
        rw [HN.out, ← hp] at HT
        subst hpm
        subst hpM
        clear hp HN
        go_wp2
        go_loopw [6] (fun v6 w' => ∃ kk : Nat, kk ≤ out.length ∧ v6 = .int .i64 (kk : Int) ∧ Aside0 (back out p out.length = back out p kk) ∧ Aside0 (Kd.R k51 51 w' w.heap.size (fun _ => True) (.slice A3 out.length c3) out) ∧ Aside0 (w'.heap[b5]? = some (.cells #[.int .i64 p.f0, .int .i64 p.f1] 51 (0, 0))) ∧ Aside0 (Below w.heap.size w w')) (fun v6 _ => (intOf v6).toNat)
        case atStart => exact ⟨out.length, Nat.le_refl _, rfl, ⟨rfl⟩, HO5, HBX, HB5⟩
        case round =>
          clear HO5 HBX HB5
          obtain ⟨kk, hkk, rfl, HK, HO, HBX, HB⟩ := hrel
          have hq0 := (blk_cell HBX.out 0).trans (show _ = some (Value.int .i64 p.f0) from rfl)
          have hq1 := (blk_cell HBX.out 1).trans (show _ = some (Value.int .i64 p.f1) from rfl)
          go_upto_region 7 with fail
          go_cut [73] (fun v wc => v = .bool (gtP p out kk) ∧ Aside0 (Kd.R k51 51 wc w.heap.size (fun _ => True) (.slice A3 out.length c3) out) ∧ Aside0 (wc.heap[b5]? = some (.cells #[.int .i64 p.f0, .int .i64 p.f1] 51 (0, 0))) ∧ Aside0 (Below w.heap.size w wc))
          case first =>
            by_cases hk0 : kk = 0
            · have hg0 : decide ((0 : Int) < (kk : Int)) = false := decide_eq_false (by omega)
              have hg1 : decide (0 < kk) = false := decide_eq_false (by omega)
              have hgt : gtP p out kk = false := by rw [hk0]; rfl
              have HGT := Aside0.mk hgt
              clear hk0 hgt
              go_quiet (fail)
              try go_wp2
              go_meet
              exact ⟨congrArg Value.bool HGT.out.symm, ⟨Kd.R_drewN HO.out _⟩, HBX, ⟨pw_below_drewN HB.out _⟩⟩
            · obtain ⟨j, hj⟩ : ∃ j, kk = j + 1 := ⟨kk - 1, by omega⟩
              obtain ⟨gg, cap, e, _⟩ := Kd.R_form HO.out (by omega)
              injection e with e e1 e2
              subst e
              clear e1 e2
              have hjn : j < out.length := by omega
              have hji : (j : Int) < (out.length : Int) := by omega
              obtain ⟨b0, b1, _, _⟩ := own_cells HO.out j hjn
              obtain ⟨y, hy⟩ : ∃ y, y = atP out j := ⟨_, rfl⟩
              rw [← hy] at b0 b1
              have hgt : gtP p out kk = ltP p y := by rw [hj, hy]; rfl
              have HGT := Aside0.mk hgt
              have hw1 : IntKind.i64.wrap ((kk : Int) - 1) = (j : Int) := by rw [IntWalk.i64_in _ (by have := HOL.out; rw [List.length_take] at this; omega)]; omega
              have hw2 : IntKind.i64.wrap (j : Int) = (j : Int) := IntWalk.i64_in _ (by have := HOL.out; rw [List.length_take] at this; omega)
              have hg0 : decide ((0 : Int) < (kk : Int)) = true := decide_eq_true (by omega)
              have hg1 : decide (0 < kk) = true := decide_eq_true (by omega)
              clear hy hgt hj hk0
              by_cases d0 : p.f0 < y.f0
              · have d0' : decide (p.f0 < y.f0) = true := decide_eq_true d0
                rw [(ltP_iff p y).2 (.inl d0)] at HGT
                clear d0
                go_quiet (fail)
                try go_wp2
                go_meet
                exact ⟨congrArg Value.bool HGT.out.symm, ⟨Kd.R_drewN HO.out _⟩, HBX, ⟨pw_below_drewN HB.out _⟩⟩
              · have d0' : decide (p.f0 < y.f0) = false := decide_eq_false d0
                by_cases d1 : y.f0 = p.f0
                · have d1' : (y.f0 == p.f0) = true := beq_iff_eq.2 d1
                  have he : ltP p y = decide (p.f1 < y.f1) := by simp [ltP, d0, d1]
                  rw [he] at HGT
                  clear d0 d1 he
                  go_quiet (fail)
                  try go_wp2
                  go_meet
                  exact ⟨congrArg Value.bool HGT.out.symm, ⟨Kd.R_drewN HO.out _⟩, HBX, ⟨pw_below_drewN HB.out _⟩⟩
                · have d1' : (y.f0 == p.f0) = false := beq_eq_false_iff_ne.2 d1
                  have he : ltP p y = false := (ltP_no p y).2 (by omega)
                  rw [he] at HGT
                  clear d0 d1 he
                  go_quiet (fail)
                  try go_wp2
                  go_meet
                  exact ⟨congrArg Value.bool HGT.out.symm, ⟨Kd.R_drewN HO.out _⟩, HBX, ⟨pw_below_drewN HB.out _⟩⟩
          case rest =>
            clear HO HBX HB hq0 hq1
            obtain ⟨rfl, HO, HBX, HB⟩ := hcut
            have hq0 := (blk_cell HBX.out 0).trans (show _ = some (Value.int .i64 p.f0) from rfl)
            have hq1 := (blk_cell HBX.out 1).trans (show _ = some (Value.int .i64 p.f1) from rfl)
            by_cases ht : gtP p out kk = true
            · obtain ⟨j, hj⟩ : ∃ j, kk = j + 1 := by
                rcases kk with _ | j
                · cases ht
                · exact ⟨j, rfl⟩
              have hbk : back out p kk = back out p j := by
                rw [hj] at ht ⊢
                exact if_pos ht
              have HK2 := Aside0.mk (HK.out.trans hbk)
              rw [ht]
              have hk1 : (kk : Int) - 1 = (j : Int) := by omega
              have hkn : kk < 9223372036854775807 := by have := HOL.out; rw [List.length_take] at this; omega
              clear ht hbk HK
              go_wp2
              go_roundw
              case rel => exact ⟨j, by omega, vi (by first | done | omega | (unfold wrap64; omega)), HK2, HO, HBX, HB⟩
              case measure => simp [intOf]; first | omega | (unfold wrap64; omega)
            · replace ht := Bool.eq_false_iff.mpr ht
              rw [ht]
              have hbk : back out p out.length = kk := by
                rw [HK.out]
                rcases kk with _ | j
                · rfl
                · have h2 : ltP p (atP out j) = false := ht
                  unfold back
                  rw [h2]; rfl
              have HK2 := Aside0.mk hbk
              clear hbk HK ht
              go_wp2
              have hkn : kk < 9223372036854775807 := by have := HOL.out; rw [List.length_take] at this; omega
              go_cut [93] (fun v wc => v = .bool (isP p out kk) ∧ Aside0 (Kd.R k51 51 wc w.heap.size (fun _ => True) (.slice A3 out.length c3) out) ∧ Aside0 (wc.heap[b5]? = some (.cells #[.int .i64 p.f0, .int .i64 p.f1] 51 (0, 0))) ∧ Aside0 (Below w.heap.size w wc))
              case first =>
                by_cases e0 : p.f0 = p.f1
                · have e0' : (p.f0 == p.f1) = true := beq_iff_eq.2 e0
                  have HGT := Aside0.mk (show isP p out kk = true by unfold isP; rw [e0']; rfl)
                  clear e0
                  go_quiet (fail)
                  try go_wp2
                  go_meet
                  exact ⟨congrArg Value.bool HGT.out.symm, ⟨Kd.R_drewN HO.out _⟩, HBX, ⟨pw_below_drewN HB.out _⟩⟩
                · have e0' : (p.f0 == p.f1) = false := beq_eq_false_iff_ne.2 e0
                  have HE := Aside0.mk e0'
                  clear e0
                  by_cases hk0 : kk = 0
                  · have hg0 : decide ((0 : Int) < (kk : Int)) = false := decide_eq_false (by omega)
                    have hg1 : decide (0 < kk) = false := decide_eq_false (by omega)
                    have HGT := Aside0.mk (show isP p out kk = false by rw [hk0]; unfold isP; rw [HE.out]; rfl)
                    clear hk0
                    go_quiet (fail)
                    try go_wp2
                    go_meet
                    exact ⟨congrArg Value.bool HGT.out.symm, ⟨Kd.R_drewN HO.out _⟩, HBX, ⟨pw_below_drewN HB.out _⟩⟩
                  · obtain ⟨j, hj⟩ : ∃ j, kk = j + 1 := ⟨kk - 1, by omega⟩
                    obtain ⟨gg, cap, e, _⟩ := Kd.R_form HO.out (by omega)
                    injection e with e e1 e2
                    subst e
                    clear e1 e2
                    have hjn : j < out.length := by omega
                    have hji : (j : Int) < (out.length : Int) := by omega
                    obtain ⟨b0, b1, _, _⟩ := own_cells HO.out j hjn
                    obtain ⟨y, hy⟩ : ∃ y, y = atP out j := ⟨_, rfl⟩
                    rw [← hy] at b0 b1
                    have HGT := Aside0.mk (show isP p out kk = sameP y p by rw [hj, hy]; unfold isP; rw [HE.out]; rfl)
                    have hw1 : IntKind.i64.wrap ((kk : Int) - 1) = (j : Int) := by rw [IntWalk.i64_in _ (by omega)]; omega
                    have hw2 : IntKind.i64.wrap (j : Int) = (j : Int) := IntWalk.i64_in _ (by omega)
                    have hg0 : decide ((0 : Int) < (kk : Int)) = true := decide_eq_true (by omega)
                    have hg1 : decide (0 < kk) = true := decide_eq_true (by omega)
                    clear hy hj hk0
                    cases hs : sameP y p
                    all_goals
                      have hs' : (y.f0 == p.f0 && (y.f1 == p.f1)) = _ := hs
                      rw [hs] at HGT
                      clear hs
                      go_quiet (fail)
                      try go_wp2
                      go_meet
                      exact ⟨congrArg Value.bool HGT.out.symm, ⟨Kd.R_drewN HO.out _⟩, HBX, ⟨pw_below_drewN HB.out _⟩⟩
              case rest =>
                clear HO HBX HB hq0 hq1
                obtain ⟨rfl, HO, HBX, HB⟩ := hcut
                cases hP : isP p out kk
                · have HT2 := Aside0.mk (show rlinks (l0.take (i + 1)) = out.take kk ++ [p] ++ out.drop kk by
                    rw [HT.out]; unfold ins12; rw [HK2.out, hP]; rfl)
                  clear hP
                  obtain ⟨w6, hw6⟩ : ∃ w6 : World, w6 = wc := ⟨_, rfl⟩
                  subst hw6
                  have hcl := HOL.out
                  rw [List.length_take] at hcl
                  have hon : out.length < 1000000 := by omega
                  have hC := (Kd.R_reads' HO.out).2.2
                  have hnc := (Kd.R_reads' HO.out).2.1
                  have hcutA : ∀ W : World, (Instr.slice 41 (.slice A3 out.length c3) none (some (.int .i64 (kk : Int))) none).run Try.prog W = .ok (.slice A3 kk c3) W := by
                    intro W
                    obtain ⟨i0, hi0, _, hsz, _⟩ := info_parts giP
                    have h := cut_to (P := Try.prog) 41 51 .i64 Try.underlying41 hi0 A3 out.length c3 (kk : Int) (by omega) (by omega) hnc W
                    rw [Int.toNat_natCast] at h
                    exact h
                  obtain ⟨A4, hA4⟩ : ∃ A4, A4 = (if c3 = kk then A3 else A3.map (·.add (kk * 2))) := ⟨_, rfl⟩
                  have hcutB : ∀ W : World, (Instr.slice 41 (.slice A3 out.length c3) (some (.int .i64 (kk : Int))) none none).run Try.prog W = .ok (.slice A4 (out.length - kk) (c3 - kk)) W := by
                    intro W
                    obtain ⟨i0, hi0, _, hsz, _⟩ := info_parts giP
                    have h := cut_from (P := Try.prog) 41 51 .i64 Try.underlying41 hi0 2 hsz A3 out.length c3 (kk : Int) (by omega) (by omega) W
                    rw [Int.toNat_natCast, ← hA4] at h
                    exact h
                  have hCt := Kd.C_take hC hkk
                  have hCd := Kd.C_drop (c := c3) hC hkk hnc
                  rw [show k51.sz = 2 from rfl, ← hA4, List.length_drop] at hCd
                  rw [List.length_take, Nat.min_eq_left hkk] at hCt
                  have HCT := Aside0.mk (And.intro hCt hCd)
                  have HLE := Aside0.mk (And.intro hcl (And.intro hon hkk))
                  have hE := below_alloc (Below.refl _ w6) (.cells #[] 51)
                  have hR0 : Kd.R k51 51 (w6.alloc (.cells #[] 51)) w6.heap.size (fun _ => True) (.slice (some ⟨w6.heap.size, 0, none⟩) 0 0) [] :=
                    ⟨fun _ _ => trivial, [], ⟨rfl, .inr ⟨w6.heap.size, 0, #[], rfl, Nat.le_refl _, blk_new w6 _, Nat.le_refl _, Nat.zero_le _, rfl, rfl⟩⟩, Reps.none _ _⟩
                  have HR0b := Aside0.mk (And.intro hR0 hE)
                  clear hC hnc hA4 hCt hCd hR0 hE hcl hkk hkn hon
                  go_wp2_with (at_builtin; go_loud (refine Kd.R_append_rows k51 (Rr := k51.K (w6.alloc (.cells #[] 51))) (w0 := w6) w6.heap.size rfl (.tmp 94) (.tmp 97) 41 51 (.agg #[.int .i64 0, .int .i64 0]) 16 rfl Try.underlying41 giP rfl (by decide) (by decide) _ [] (out.take kk) A3 kk c3 (fun _ => True) (fun _ => False) rfl rfl HR0b.out.1 (Kd.C_below HCT.out.1 HR0b.out.2) (fun x cs h => by obtain rfl := k51_open h; exact k51_mkM _ _ _ x) (fun _ h => h.elim) (fun _ _ => trivial) HR0b.out.2 (by simp) ?hl ?_))
                  case hl => have := HLE.out; simp; omega
                  intro v7 w7 hR7 hB7 _ _
                  have hR7 : Kd.R k51 51 w7 w6.heap.size (fun _ => True) v7 (out.take kk) := hR7
                  have hq0 := pw_cell_below hB7 ((blk_cell HBX.out 0).trans (show _ = some (Value.int .i64 p.f0) from rfl))
                  have hq1 := pw_cell_below hB7 ((blk_cell HBX.out 1).trans (show _ = some (Value.int .i64 p.f1) from rfl))
                  have H7 := Aside0.mk (And.intro hR7 hB7)
                  clear hR7 hB7 hcutA
                  go_wp2_with (at_builtin; go_loud (refine Kd.R_append k51 (w0 := w6) w6.heap.size rfl (.tmp 99) (.tmp 101) 41 51 (.agg #[.int .i64 0, .int .i64 0]) 16 rfl Try.underlying41 giP rfl (by decide) (by decide) _ (out.take kk) p [.int .i64 p.f0, .int .i64 p.f1] (fun _ => True) (fun _ => False) rfl rfl (k51_mkM _ _ _ p) (fun _ h => h.elim) (fun _ _ => trivial) H7.out.1 H7.out.2 H7.out.2.size ?hl ?_))
                  case hl => have := HLE.out; rw [List.length_take]; omega
                  intro v8 w8 hR8 hB8 _ _
                  have H8 := Aside0.mk (And.intro hR8 hB8)
                  clear hR8 hB8 hq0 hq1 H7
                  go_wp2_with (at_builtin; go_loud (refine Kd.R_append_rows k51 (Rr := k51.K w8) (w0 := w6) w6.heap.size rfl (.tmp 103) (.tmp 106) 41 51 (.agg #[.int .i64 0, .int .i64 0]) 16 rfl Try.underlying41 giP rfl (by decide) (by decide) _ (out.take kk ++ [p]) (out.drop kk) A4 (out.length - kk) (c3 - kk) (fun _ => True) (fun _ => False) rfl rfl H8.out.1 (Kd.C_below HCT.out.2 H8.out.2) (fun x cs h => by obtain rfl := k51_open h; exact k51_mkM _ _ _ x) (fun _ h => h.elim) (fun _ _ => trivial) H8.out.2 H8.out.2.size ?hl ?_))
                  case hl => have := HLE.out; simp; omega
                  intro v9 w9 hR9 hB9 _ _
                  have hR9 : Kd.R k51 51 w9 w6.heap.size (fun _ => True) v9 (rlinks (l0.take (i + 1))) := by rw [HT2.out]; first | exact hR9 | (simpa using hR9)
                  have H9 := Aside0.mk (And.intro (Kd.R_lower hR9 HB.out.size) (below_then HB.out HB.out.size hB9))
                  clear hR9 hB9 hcutB H8
                  go_wp2
                  go_roundw
                  case rel => exact ⟨i + 1, by omega, by go_num, ⟨H9.out.1⟩, ⟨H9.out.2⟩⟩
                  case measure => simp [intOf]; omega
                · have HT2 := Aside0.mk (show rlinks (l0.take (i + 1)) = out by
                    rw [HT.out]; unfold ins12; rw [HK2.out, hP]; rfl)
                  clear hP
                  rw [← HT2.out] at HO
                  have hlo : out.length = (rlinks (l0.take (i + 1))).length := by rw [HT2.out]
                  clear hlo
                  go_wp2
                  go_roundw
                  case rel => exact ⟨i + 1, by omega, by go_num, by simpa [HT2.out] using HO, HB⟩
                  case measure => simp [intOf]; omega
      · have e : i = l0.length := by omega
        subst e
        rw [List.take_length] at HO
        obtain ⟨A3, c3, rfl⟩ := Kd.R_slice HO.out
        go_wp2
        go_ret
        exact ⟨_, rfl, HO.out, HB.out⟩
  · rw [if_neg hlen] at h
    cases h

theorem orielref12_Class.mono_l : ∀ k, (∀ a b c d, LeO (orielref12_Class.l0 k a b c d) (orielref12_Class.l0 (k + 1) a b c d)) ∧ (∀ a b c d, LeO (orielref12_Class.l1 k a b c d) (orielref12_Class.l1 (k + 1) a b c d)) ∧ (∀ a b c d e, LeO (orielref12_Class.l2 k a b c d e) (orielref12_Class.l2 (k + 1) a b c d e))
  | 0 => ⟨fun _ _ _ _ r h => by simp [orielref12_Class.l0] at h, fun _ _ _ _ r h => by simp [orielref12_Class.l1] at h, fun _ _ _ _ _ r h => by simp [orielref12_Class.l2] at h⟩
  | k + 1 => by
    obtain ⟨ih0, ih1, ih2⟩ := orielref12_Class.mono_l k
    refine ⟨fun a b c d => ?_, fun a b c d => ?_, fun a b c d e => ?_⟩
    · unfold orielref12_Class.l0
      repeat' first
        | (with_reducible exact ih0 _ _ _ _)
        | (with_reducible exact ih1 _ _ _ _)
        | (with_reducible exact LeO.refl _)
        | (with_reducible refine LeO.ite ?_ ?_)
    · unfold orielref12_Class.l1
      repeat' first
        | (with_reducible exact ih2 _ _ _ _ _)
        | (with_reducible exact LeO.refl _)
        | (with_reducible refine LeO.ite ?_ ?_)
    · unfold orielref12_Class.l2
      repeat' first
        | (with_reducible exact ih1 _ _ _ _)
        | (with_reducible exact ih2 _ _ _ _ _)
        | (with_reducible exact LeO.refl _)
        | (with_reducible refine LeO.ite ?_ ?_)
theorem orielref12_Class.mono : ∀ a0 a1 k, LeO (orielref12_Class.f k a0 a1) (orielref12_Class.f (k + 1) a0 a1) := fun _ _ k => (orielref12_Class.mono_l k).1 _ _ _ _

end Go.Proofs.Ytjnhdoaceegkoaa.PMl
