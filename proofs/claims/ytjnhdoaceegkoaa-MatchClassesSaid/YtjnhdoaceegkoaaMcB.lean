import Derived.Test.YtjnhdoaceegkoaaMcC
import Derived.Deep.Slices
import Derived.Deep.Fields
import Derived.ChangeSame
import Derived.WalkKit
import Derived.ProofKit
import Derived.OpenShut
import Derived.ShutString
import Derived.ChangeOld
import Derived.Below
import Derived.SizedLaws
import Derived.SliceStrings
namespace Go.Proofs.Ytjnhdoaceegkoaa.PMc
open Go.RowKit Go.Proofs.YtjnhdoaceegkoaaW.PrintWords Go.Proofs.YtjnhdoaceegkoaaW.PrintLast Go.Proofs.YtjnhdoaceegkoaaW.PrintMore
set_option linter.unusedVariables false
/-! ### what was read opens as rows of a kind -/
section
open Go.WideShapes Go.ChangeShapes
variable {H : Type} {enc : TypeId × Value → H} {P : Program} {w : World} {base : Nat} {spare : Nat → Bool} {held : Bool} {α : Type}
theorem C_of_trod {d : Kd α} {t e : TypeId} (ht : P.underlying t = some (.slice e)) (hsz : P.cellsOf e = d.sz)
    (hE : ∀ n cs y, DataW.trod enc P w base spare held n e cs = some y → cs.length = d.sz → ∃ x, d.K w x cs) {fuel : Nat} {A : Option Addr} {len cap : Nat} {x : DataW H × List MemPlace}
    (h : DataW.trod enc P w base spare held fuel t [.slice A len cap] = some x) : len ≤ cap ∧ ∃ xs : List α, xs.length = len ∧ d.C w A len xs := by
  rcases DataW.trod_slice ht h with ⟨h0, _⟩ | ⟨a, len', cap', elems, rest, n, _, hcs, _, _, hl, hm, hlen, hel, _, _⟩
  · simp at h0
    obtain ⟨rfl, rfl, rfl⟩ := h0
    exact ⟨Nat.le_refl _, [], rfl, Kd.C_nil _ _⟩
  · simp at hcs
    obtain ⟨rfl, rfl, rfl⟩ := hcs
    refine ⟨hl, ?_⟩
    have each : ∀ i, i < len → ∃ x cs, d.K w x cs ∧ cs.length = d.sz ∧ ∀ j u, cs[j]? = some u → w.cell? (a.add (i * d.sz + j)) = some u := by
      intro i hi
      have h1 := hel i hi
      have hi2 : i < elems.length := by omega
      rw [List.getElem?_eq_getElem hi2, Option.bind_eq_some_iff] at h1
      obtain ⟨cs', h2, h3⟩ := h1
      obtain ⟨_, h4, h5⟩ := World.cells?_some h2
      rw [hsz] at h4 h5
      obtain ⟨x, hx⟩ := hE _ _ _ h3 h4
      refine ⟨x, cs', hx, h4, fun j u hu => ?_⟩
      have hj : j < d.sz := by rw [← h4]; exact (List.getElem?_eq_some_iff.1 hu).1
      have h6 := h5 j hj
      rw [Go.Deep.add_add] at h6
      rw [h6, hu]
    have hex : ∀ n, n ≤ len → ∃ xs : List α, xs.length = n ∧ ∀ j p, xs[j]? = some p → ∃ c, c.length = d.sz ∧ d.K w p c ∧ ∀ i u, c[i]? = some u → w.cell? (a.add (j * d.sz + i)) = some u := by
      intro n
      induction n with
      | zero => intro _; exact ⟨[], rfl, by simp⟩
      | succ n ih =>
        intro hn
        obtain ⟨xs, hxl, hx⟩ := ih (by omega)
        obtain ⟨x, cs, h1, h2, h3⟩ := each n (by omega)
        refine ⟨xs ++ [x], by simp [hxl], fun j p hj => ?_⟩
        by_cases hjn : j < xs.length
        · rw [List.getElem?_append_left hjn] at hj
          exact hx j p hj
        · rw [List.getElem?_append_right (by omega)] at hj
          have hj0 : j - xs.length = 0 := by
            rcases Nat.eq_zero_or_pos (j - xs.length) with h | h
            · exact h
            · rw [List.getElem?_eq_none (by simp; omega)] at hj; cases hj
          rw [hj0] at hj
          simp at hj
          subst hj
          have ej : j = n := by omega
          subst ej
          exact ⟨cs, h2, h1, h3⟩
    obtain ⟨xs, hxl, hx⟩ := hex len (Nat.le_refl _)
    unfold maxLen at hm
    exact ⟨xs, hxl, hxl, by omega, fun _ => ⟨a, rfl, hx⟩⟩
theorem opens_int {k : IntKind} {e : TypeId} (he : P.underlying e = some (.int k)) : ∀ n cs y, DataW.trod enc P w base spare held n e cs = some y → cs.length = (Kd.int k).sz → ∃ x, (Kd.int k).K w x cs := by
  intro n cs y h _
  obtain ⟨m, rfl, _, _⟩ := DataW.trod_int he h
  exact ⟨m, rfl⟩
theorem opens_string {e : TypeId} (he : P.underlying e = some .string) : ∀ n cs y, DataW.trod enc P w base spare held n e cs = some y → cs.length = Kd.string.sz → ∃ x, Kd.string.K w x cs := by
  intro n cs y h _
  obtain ⟨m, rfl, _, _⟩ := DataW.trod_string he h
  exact ⟨m, rfl⟩
end
theorem two_cells {cs : List Value} (h : cs.length = 2) : ∃ a b, cs = [a, b] := by
  rcases cs with _ | ⟨a, _ | ⟨b, _ | ⟨c, r⟩⟩⟩
  · cases h
  · cases h
  · exact ⟨a, b, rfl⟩
  · simp at h
set_option maxRecDepth 100000 in
theorem opens_pair {H : Type} {enc : TypeId × Value → H} {w : World} {base : Nat} {spare : Nat → Bool} {held : Bool} : ∀ n cs y, DataW.trod enc Try.prog w base spare held n 51 cs = some y → cs.length = k51.sz → ∃ x, k51.K w x cs := by
  intro n cs y h hl
  obtain ⟨c0, c1, rfl⟩ := two_cells hl
  obtain ⟨y0, y1, m, _, _, h0, h1⟩ := Go.ChangeShapes.trod_struct2 Try.underlying51 h
  have h0' : DataW.trod enc Try.prog w base spare held m 3 [c0] = some y0 := h0
  have h1' : DataW.trod enc Try.prog w base spare held m 3 [c1] = some y1 := h1
  obtain ⟨a, e0, _, _⟩ := DataW.trod_int Try.underlying3 h0'
  obtain ⟨b, e1, _, _⟩ := DataW.trod_int Try.underlying3 h1'
  simp at e0 e1
  subst e0
  subst e1
  exact ⟨⟨a, b⟩, k51_mk w ⟨a, b⟩⟩
end Go.Proofs.Ytjnhdoaceegkoaa.PMc
