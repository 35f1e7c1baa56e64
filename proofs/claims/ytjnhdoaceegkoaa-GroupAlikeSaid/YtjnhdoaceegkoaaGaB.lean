import Derived.Test.YtjnhdoaceegkoaaGaA
import Derived.Test.YtjnhdoaceegkoaaPGax9
namespace Go.Proofs.Ytjnhdoaceegkoaa.PGa
open Go.RowKit Go.Proofs.YtjnhdoaceegkoaaW.PrintWords Go.Proofs.YtjnhdoaceegkoaaW.PrintLast Go.Proofs.YtjnhdoaceegkoaaW.PrintMore
theorem popA_alike {a b : List ByteArray} (h : ∀ i, lv (a.getD i ByteArray.empty) = lv (b.getD i ByteArray.empty)) (i : Nat) : ∀ (ws : List Nat) (ts : List S27), popA a (a.getD i ByteArray.empty) ws ts = popA b (b.getD i ByteArray.empty) ws ts
  | [], ts => by cases ts <;> rfl
  | w :: ws, [] => rfl
  | w :: ws, [x] => rfl
  | w :: ws, x :: y :: ts => by
    have e : strB (a.getD w ByteArray.empty) (a.getD i ByteArray.empty) = strB (b.getD w ByteArray.empty) (b.getD i ByteArray.empty) := by
      unfold strB
      rw [h w, h i]
    simp only [popA]
    rw [e, popA_alike h i ws (nodeT w y x :: ts)]
theorem runA_alike {a b : List ByteArray} (h : ∀ i, lv (a.getD i ByteArray.empty) = lv (b.getD i ByteArray.empty)) : ∀ i, runA a i = runA b i
  | 0 => rfl
  | i + 1 => by
    simp only [runA]
    rw [runA_alike h i, popA_alike h i]
theorem grpOut_alike {a b : List ByteArray} (hl : a.length = b.length) (h : ∀ i, lv (a.getD i ByteArray.empty) = lv (b.getD i ByteArray.empty)) : grpOut a = grpOut b := by
  have e : grpB a = grpB b := by
    unfold grpB
    rw [runA_alike h, hl]
  have e2 : (∃ j, j < a.length ∧ (lv (a.getD j ByteArray.empty)).1 = 0) ↔ (∃ j, j < b.length ∧ (lv (b.getD j ByteArray.empty)).1 = 0) := by
    constructor
    · rintro ⟨j, h1, h2⟩; exact ⟨j, by omega, by rw [← h j]; exact h2⟩
    · rintro ⟨j, h1, h2⟩; exact ⟨j, by omega, by rw [h j]; exact h2⟩
  unfold grpOut
  rw [e]
  by_cases c : ∃ j, j < a.length ∧ (lv (a.getD j ByteArray.empty)).1 = 0
  · rw [if_pos c, if_pos (e2.1 c)]
  · rw [if_neg c, if_neg (fun hh => c (e2.2 hh))]
theorem Level_name (s : ByteArray) (hs : s.size ≤ 1000) : Ev (fun k => name_Level.f k s) (lv s) := Ev.of (name_Level.mono s) (level_some s (by omega))
theorem Alike_ev (s t : ByteArray) (hs : s.size ≤ 1000) (ht : t.size ≤ 1000) : ∃ b, Ev (fun k => name_Alike.f k s t) b ∧ (b = true → lv s = lv t) := by
  have ks : name_Kind.f s = some (kindB s) := by unfold name_Kind.f; rw [if_pos (by omega)]
  have kt : name_Kind.f t = some (kindB t) := by unfold name_Kind.f; rw [if_pos (by omega)]
  have lz : ∀ (x : ByteArray), x.size ≤ 1000 → kindB x ≠ 9 → lv x = (0, false) := fun x hx h => by rw [lv_eq x hx, if_neg h]
  unfold name_Alike.f
  rw [ks, kt]
  by_cases h1 : kindB s = kindB t
  · by_cases h9 : kindB s = 9
    · by_cases h2 : (lv s).1 = (lv t).1
      · refine ⟨(lv s).2 == (lv t).2, ?_, fun h => ?_⟩
        · refine Ev.congr (fun k => (if_pos h1).trans (if_pos h9)) (Ev.bind (Level_name s hs) (Ev.bind (Level_name t ht) (Ev.congr (fun k => if_pos h2) (Ev.now _))))
        · exact Prod.ext h2 (by simpa using h)
      · refine ⟨false, ?_, by simp⟩
        exact Ev.congr (fun k => (if_pos h1).trans (if_pos h9)) (Ev.bind (Level_name s hs) (Ev.bind (Level_name t ht) (Ev.congr (fun k => if_neg h2) (Ev.now _))))
    · have e : lv s = lv t := by rw [lz s hs h9, lz t ht (by omega)]
      by_cases h6 : kindB s = 6
      · exact ⟨true, Ev.congr (fun k => (if_pos h1).trans ((if_neg h9).trans (if_pos h6))) (Ev.now _), fun _ => e⟩
      · by_cases h7 : kindB s = 7
        · exact ⟨true, Ev.congr (fun k => (if_pos h1).trans ((if_neg h9).trans ((if_neg h6).trans (if_pos h7)))) (Ev.now _), fun _ => e⟩
        · exact ⟨false, Ev.congr (fun k => (if_pos h1).trans ((if_neg h9).trans ((if_neg h6).trans (if_neg h7)))) (Ev.now _), by simp⟩
  · exact ⟨false, Ev.congr (fun k => if_neg h1) (Ev.now _), by simp⟩
theorem grp_some {l : List ByteArray} (hl : l.length ≤ 60) (hs : ∀ j, j < l.length → (l.getD j ByteArray.empty).size ≤ 500) : group_Group.f l = some (grpOut l) := by
  have hc : ∀ s ∈ l, s.size ≤ 9223372036854775807 := fun s hm => by
    obtain ⟨j, hj, rfl⟩ := List.getElem_of_mem hm
    have := hs j hj
    simp [hj] at this
    omega
  unfold group_Group.f
  rw [if_pos ⟨by omega, hc⟩]
theorem of_zero : Ev (fun k => oriellaw31_of.f k 0 0 []) (0, 0, []) := by
  refine Ev.step (f := fun k => oriellaw31_of.l0 k [] 0 0 0 0 []) (fun k => by rw [oriellaw31_of.f]; rfl) (Ev.step (f := fun _ => some _) (fun k => ?_) (Ev.now _))
  rw [oriellaw31_of.l0, if_neg (by omega)]
theorem Same_zero : Ev (fun k => orielref31_Same.f k 0 0 [] 0 0 []) true := by
  refine Ev.step (f := fun k => orielref31_Same.j0 k false 0 0 [] 0 0 []) (fun k => by rw [orielref31_Same.f, if_pos rfl, if_pos rfl]; rfl) ?_
  refine Ev.step (f := fun k => orielref31_Same.l0 k 0 0 0 [] 0 0 []) (fun k => by rw [orielref31_Same.j0, if_neg (by simp)]) ?_
  refine Ev.step (f := fun _ => some true) (fun k => ?_) (Ev.now _)
  rw [orielref31_Same.l0, if_neg (by simp)]
/-- what Group answers, as the document's term -/
theorem grpOut_of {l : List ByteArray} (hl : l.length ≤ 60) (hs : ∀ j, j < l.length → (l.getD j ByteArray.empty).size ≤ 500) : ∃ u : Int × Int × List S33, Ev (fun k => oriellaw31_of.f k (grpOut l).1 (grpOut l).2.1 (grpOut l).2.2.1) u ∧ Ev (fun k => orielref31_Same.f k u.1 u.2.1 u.2.2 u.1 u.2.1 u.2.2) true := by
  by_cases c : ∃ j, j < l.length ∧ (lv (l.getD j ByteArray.empty)).1 = 0
  · have hg : grpOut l = (0, 0, [], false) := by unfold grpOut; rw [if_pos c]
    rw [hg]
    exact ⟨(0, 0, []), of_zero, Same_zero⟩
  · have hg : grpOut l = ((grpB l).f0, (grpB l).f1, (grpB l).f2, true) := by unfold grpOut; rw [if_neg c]
    rw [hg]
    obtain ⟨u, u1, u2⟩ := of_ev (grpB_is l hs) (by omega)
    exact ⟨(u.f0, u.f1, u.f2), u2, Same_ev u1⟩
theorem GroupAlike_true (a b : List ByteArray) : Ev (fun k => oriellaw31_GroupAlike.f k a b) true := by
  have fin : Ev (fun k => (oriellaw31_alive.f k).bind fun t => some t) true := Ev.bind alive_ev (Ev.now _)
  have jt : Ev (fun k => oriellaw31_GroupAlike.j0 k a b true) true := Ev.step (fun k => by rw [oriellaw31_GroupAlike.j0, if_pos rfl]) fin
  obtain ⟨ra, hra, h2a⟩ := few_ev a
  obtain ⟨rb, hrb, h2b⟩ := few_ev b
  unfold oriellaw31_GroupAlike.f
  refine Ev.bind hra ?_
  by_cases hat : ra = true
  case neg => exact Ev.congr (fun k => if_neg hat) jt
  refine Ev.congr (fun k => if_pos hat) (Ev.bind hrb ?_)
  by_cases hbt : rb = true
  case neg => exact Ev.congr (fun k => if_neg hbt) jt
  refine Ev.congr (fun k => if_pos hbt) ?_
  by_cases hlen : a.length = b.length
  case neg =>
    have e : ((a.length : Int) != (b.length : Int)) = true := by simp; omega
    rw [e]
    exact jt
  have e : ((a.length : Int) != (b.length : Int)) = false := by simp; omega
  rw [e]
  obtain ⟨hla, hsa⟩ := h2a hat
  obtain ⟨hlb, hsb⟩ := h2b hbt
  refine Ev.step (f := fun k => oriellaw31_GroupAlike.l0 k a b (a.length : Int) 0) (fun k => by rw [oriellaw31_GroupAlike.j0, if_neg (by simp)]) ?_
  have loop : ∀ (m i : Nat), i + m = a.length → (∀ j, j < i → lv (a.getD j ByteArray.empty) = lv (b.getD j ByteArray.empty)) → Ev (fun k => oriellaw31_GroupAlike.l0 k a b (a.length : Int) i) true := by
    intro m
    induction m with
    | zero =>
      intro i hi hall
      have hal : ∀ j, lv (a.getD j ByteArray.empty) = lv (b.getD j ByteArray.empty) := fun j => by
        by_cases hj : j < a.length
        · exact hall j (by omega)
        · rw [List.getD_eq_getElem?_getD, List.getD_eq_getElem?_getD, List.getElem?_eq_none (by omega), List.getElem?_eq_none (by omega)]
      have hg := grpOut_alike hlen hal
      obtain ⟨u, u1, u2⟩ := grpOut_of hla hsa
      refine Ev.step (f := fun k => (oriellaw31_of.f k (grpOut a).1 (grpOut a).2.1 (grpOut a).2.2.1).bind fun x => (oriellaw31_of.f k (grpOut a).1 (grpOut a).2.1 (grpOut a).2.2.1).bind fun y => (orielref31_Same.f k x.1 x.2.1 x.2.2 y.1 y.2.1 y.2.2).bind fun t => if t = true then ((oriellaw31_alive.f k).bind fun z => some z) else some false) (fun k => ?_) (Ev.bind u1 (Ev.bind u1 (Ev.bind u2 (Ev.congr (fun k => if_pos rfl) fin))))
      rw [oriellaw31_GroupAlike.l0, if_neg (by omega), grp_some hla hsa, grp_some hlb hsb, ← hg]
      simp only [Option.bind_some]
      rw [if_pos (by simp)]
    | succ m ih =>
      intro i hi hall
      have ei : wrap64 ((i : Int) + 1) = ((i + 1 : Nat) : Int) := by rw [wr64 (by omega) (by omega)]; rfl
      obtain ⟨r, hr, hl⟩ := Alike_ev (a.getD i ByteArray.empty) (b.getD i ByteArray.empty) (sz_all hsa i) (sz_all hsb i)
      refine Ev.step (f := fun k => (name_Alike.f k (a.getD i ByteArray.empty) (b.getD i ByteArray.empty)).bind fun t => if t = true then oriellaw31_GroupAlike.l0 k a b (a.length : Int) ((i + 1 : Nat) : Int) else ((oriellaw31_alive.f k).bind fun z => some z)) (fun k => ?_) (Ev.bind hr ?_)
      · rw [oriellaw31_GroupAlike.l0, if_pos (by omega), if_pos (by omega), if_pos (by omega), if_pos (by omega), rd_mem a i, rd_mem b i, ei]
      · by_cases hrt : r = true
        · refine Ev.congr (fun k => if_pos hrt) (ih (i + 1) (by omega) (fun j hj => ?_))
          by_cases e : j = i
          · subst e; exact hl hrt
          · exact hall j (by omega)
        · exact Ev.congr (fun k => if_neg hrt) fin
  exact loop a.length 0 (by omega) (fun j h => by omega)
theorem GroupAlike_all (a b : List ByteArray) : ∃ k, oriellaw31_GroupAlike.f k a b = some true := (GroupAlike_true a b).rounds
end Go.Proofs.Ytjnhdoaceegkoaa.PGa
