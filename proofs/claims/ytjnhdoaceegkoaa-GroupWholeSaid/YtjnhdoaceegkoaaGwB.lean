import Derived.Test.YtjnhdoaceegkoaaGwA
import Derived.Test.YtjnhdoaceegkoaaPGwx
namespace Go.Proofs.Ytjnhdoaceegkoaa.PGw
open Go.RowKit Go.Proofs.YtjnhdoaceegkoaaW.PrintWords Go.Proofs.YtjnhdoaceegkoaaW.PrintLast Go.Proofs.YtjnhdoaceegkoaaW.PrintMore
def ints (l : List Nat) : List Int := l.map (fun n : Nat => (n : Int))
theorem gth_node {sg : Bool} {b : Nat} {tl tr : S27} {xl xr : List Int} (h1 : Ev (fun k => gth sg k tl.f0 tl.f1 tl.f2) xl) (h2 : Ev (fun k => gth sg k tr.f0 tr.f1 tr.f2) xr) :
    Ev (fun k => gth sg k (nodeT b tl tr).f0 (nodeT b tl tr).f1 (nodeT b tl tr).f2) ((xl ++ xr) ++ own1 sg b (-1)) := by
  refine Ev.step (f := fun k => (gkids (fun t => gth sg k t.f0 t.f1 t.f2) [tl, tr]).bind fun xs => some (xs ++ own1 sg b (-1))) (fun _ => rfl) (Ev.bind (a := xl ++ xr) ?_ (Ev.now _))
  refine Ev.congr (f := fun k => (gth sg k tl.f0 tl.f1 tl.f2).bind fun x => (gth sg k tr.f0 tr.f1 tr.f2).bind fun y => some (x ++ y)) (fun k => ?_) (Ev.bind h1 (Ev.bind h2 (Ev.now _)))
  simp [gkids]
theorem gth_leaf {sg : Bool} (a : Nat) : Ev (fun k => gth sg k (leafT a).f0 (leafT a).f1 (leafT a).f2) (own1 sg (-1) a) :=
  Ev.step (f := fun _ => some (own1 sg (-1) a)) (fun _ => rfl) (Ev.now _)
theorem leaves_ev {l : List ByteArray} {a c : Nat} {t : S27} (h : IsT l a c t) : Ev (fun k => gth false k t.f0 t.f1 t.f2) (ints (List.range' a (c - a + 1))) := by
  induction h with
  | leaf a =>
    have := gth_leaf (sg := false) a
    simpa [own1, ints] using this
  | node a b c tl tr hab hbc hA hB hl hr ihl ihr =>
    have := gth_node (b := b) ihl ihr
    have e : List.range' a (c - a + 1) = List.range' a (b - a + 1) ++ List.range' (b + 1) (c - (b + 1) + 1) := by
      have := List.range'_append_1 (s := a) (m := b - a + 1) (n := c - (b + 1) + 1)
      rw [show a + (b - a + 1) = b + 1 by omega, show b - a + 1 + (c - (b + 1) + 1) = c - a + 1 by omega] at this
      exact this.symm
    rw [e]
    have hb : ¬ ((b : Int) < 0) := by omega
    simpa [own1, ints, hb] using this
theorem signs_ev {l : List ByteArray} {a c : Nat} {t : S27} (h : IsT l a c t) : ∃ S : List Nat, Ev (fun k => gth true k t.f0 t.f1 t.f2) (ints S) ∧ S.Perm (List.range' a (c - a)) := by
  induction h with
  | leaf a =>
    refine ⟨[], ?_, by simp⟩
    have := gth_leaf (sg := true) a
    simpa [own1, ints] using this
  | node a b c tl tr hab hbc hA hB hl hr ihl ihr =>
    obtain ⟨S1, e1, p1⟩ := ihl
    obtain ⟨S2, e2, p2⟩ := ihr
    refine ⟨(S1 ++ S2) ++ [b], ?_, ?_⟩
    · have := gth_node (b := b) e1 e2
      simpa [own1, ints] using this
    · have e : List.range' a (c - a) = List.range' a (b - a) ++ b :: List.range' (b + 1) (c - (b + 1)) := by
        have := List.range'_append_1 (s := a) (m := b - a) (n := c - b)
        rw [show a + (b - a) = b by omega, show b - a + (c - b) = c - a by omega] at this
        rw [← this]
        congr 1
        rw [show c - b = (c - (b + 1)) + 1 by omega, List.range'_succ]
      rw [e]
      have q1 : ((S1 ++ S2) ++ [b]).Perm ((S1 ++ [b]) ++ S2) := by
        rw [List.append_assoc, List.append_assoc]
        exact List.Perm.append_left _ List.perm_append_comm
      refine q1.trans ?_
      rw [List.append_assoc]
      exact List.Perm.append p1 (List.Perm.cons b p2)
theorem rd_ints (X : List Nat) (i : Nat) (h : i < X.length) : rd (ints X) (i : Int) = ((X[i] : Nat) : Int) := by
  simp [rd, ints, h]
/-- how often each number has come -/
def metL (n : Nat) (P : List Nat) : List Int := (List.range n).map (fun i : Nat => ((P.count i : Nat) : Int))
theorem metL_len (n : Nat) (P : List Nat) : (metL n P).length = n := by simp [metL]
theorem metL_rd (n : Nat) (P : List Nat) (i : Nat) (h : i < n) : rd (metL n P) (i : Int) = ((P.count i : Nat) : Int) := by
  simp [rd, metL, h]
theorem metL_set (n : Nat) (P : List Nat) (v : Nat) (h : v < n) : (metL n P).set v (((P.count v : Nat) : Int) + 1) = metL n (P ++ [v]) := by
  apply List.ext_getElem?
  intro j
  by_cases hj : j < n
  · by_cases e : j = v
    · subst e
      rw [List.getElem?_set_self (by rw [metL_len]; exact hj)]
      simp [metL, hj]
    · rw [List.getElem?_set_ne (Ne.symm e)]
      have : ¬ v = j := Ne.symm e
      simp [metL, hj, List.count_append, List.count_cons, this]
  · rw [List.getElem?_eq_none (by rw [List.length_set, metL_len]; omega), List.getElem?_eq_none (by rw [metL_len]; omega)]
section
variable (l : List ByteArray) (s lf : Int) (kids : List S27)
theorem l2_ev (X : List Int) (n : Nat) (hn : n ≤ 60) (hl : l.length = n) (hX : X = ints (List.range' 0 (n + 1))) (hlv : Ev (fun k => oriellaw31_levels.f k s lf kids l) true) : ∀ m i : Nat, i + m = n + 1 →
    Ev (fun k => oriellaw31_GroupWhole.l2 k l X X (X.length : Int) i s lf kids) true := by
  have hXl : X.length = n + 1 := by rw [hX]; simp [ints]
  intro m
  induction m with
  | zero =>
    intro i hi
    refine Ev.step (f := fun k => (oriellaw31_levels.f k s lf kids l).bind fun t => if t = true then ((oriellaw31_alive.f k).bind fun z => some z) else some false) (fun k => ?_) (Ev.bind hlv (Ev.congr (fun _ => if_pos rfl) (Ev.bind alive_ev (Ev.now _))))
    rw [oriellaw31_GroupWhole.l2, if_neg (by omega), if_pos (by rw [wr64 (by omega) (by omega)]; omega)]
  | succ m ih =>
    intro i hi
    have ei : wrap64 ((i : Int) + 1) = ((i + 1 : Nat) : Int) := by rw [wr64 (by omega) (by omega)]; rfl
    have hr : rd X (i : Int) = (i : Int) := by
      rw [hX, rd_ints _ i (by simp; omega)]
      simp
    refine Ev.step (fun k => ?_) (ih (i + 1) (by omega))
    rw [oriellaw31_GroupWhole.l2, if_pos (by omega), if_pos (by omega), if_pos (by omega), if_pos hr, ei]
theorem l1_ev (X M : List Int) (n : Nat) (hn : n ≤ 60) (hl : l.length = n) (hX : X = ints (List.range' 0 (n + 1))) (hM : M.length = n) (h1 : ∀ i : Nat, i < n → rd M (i : Int) = 1) (hlv : Ev (fun k => oriellaw31_levels.f k s lf kids l) true) : ∀ m i : Nat, i + m = n →
    Ev (fun k => oriellaw31_GroupWhole.l1 k l X M (M.length : Int) i s lf kids) true := by
  intro m
  induction m with
  | zero =>
    intro i hi
    refine Ev.step (fun k => ?_) (l2_ev l s lf kids X n hn hl hX hlv (n + 1) 0 (by omega))
    rw [oriellaw31_GroupWhole.l1, if_neg (by omega)]
    rfl
  | succ m ih =>
    intro i hi
    have ei : wrap64 ((i : Int) + 1) = ((i + 1 : Nat) : Int) := by rw [wr64 (by omega) (by omega)]; rfl
    refine Ev.step (fun k => ?_) (ih (i + 1) (by omega))
    rw [oriellaw31_GroupWhole.l1, if_pos (by omega), if_pos (by omega), if_pos (by omega), if_pos (h1 i (by omega)), ei]
theorem l0_ev (X : List Int) (S : List Nat) (n : Nat) (hn : n ≤ 60) (hl : l.length = n) (hX : X = ints (List.range' 0 (n + 1))) (hS : S.Perm (List.range' 0 n)) (hlv : Ev (fun k => oriellaw31_levels.f k s lf kids l) true) : ∀ m i : Nat, i + m = S.length →
    Ev (fun k => oriellaw31_GroupWhole.l0 k l X (metL n (S.take i)) (ints S) ((ints S).length : Int) i s lf kids) true := by
  have hSl : S.length = n := by have := hS.length_eq; simpa using this
  have hil : (ints S).length = n := by simp [ints, hSl]
  intro m
  induction m with
  | zero =>
    intro i hi
    refine Ev.step (fun k => ?_) (l1_ev l s lf kids X (metL n (S.take i)) n hn hl hX (metL_len _ _) (fun j hj => ?_) hlv n 0 (by omega))
    · rw [oriellaw31_GroupWhole.l0, if_neg (by omega)]
      rfl
    · rw [metL_rd n _ j hj, List.take_of_length_le (by omega), hS.count_eq]
      have : (List.range' 0 n).count j = 1 := by
        rw [List.Nodup.count (List.nodup_range')]
        rw [if_pos (by simp; omega)]
      rw [this]
      rfl
  | succ m ih =>
    intro i hi
    have hiS : i < S.length := by omega
    have ei : wrap64 ((i : Int) + 1) = ((i + 1 : Nat) : Int) := by rw [wr64 (by omega) (by omega)]; rfl
    have hv : S[i] < n := by
      have := hS.mem_iff.1 (List.getElem_mem hiS)
      simp at this
      omega
    have hr := rd_ints S i hiS
    have hc : (S.take i).count S[i] ≤ 60 := by
      have := List.count_le_length (a := S[i]) (l := S.take i)
      rw [List.length_take] at this
      omega
    have hset : (metL n (S.take i)).set (((S[i] : Nat) : Int)).toNat (wrap64 (rd (metL n (S.take i)) ((S[i] : Nat) : Int) + 1)) = metL n (S.take (i + 1)) := by
      rw [metL_rd n _ _ hv, wr64 (by omega) (by omega), Int.toNat_natCast, metL_set n _ _ hv, List.take_succ_eq_append_getElem hiS]
    refine Ev.step (fun k => ?_) (ih (i + 1) (by omega))
    rw [oriellaw31_GroupWhole.l0, if_pos (by omega), if_pos (by omega), if_pos (by omega), hr, if_neg (by omega), if_neg (by rw [metL_len]; omega), if_pos (by omega), if_pos (by rw [metL_len]; omega), hset, ei]
end
theorem LevelN (s : ByteArray) (hs : s.size ≤ 1000) : Ev (fun k => name_Level.f k s) (lv s) := Ev.of (name_Level.mono s) (level_some s (by omega))
theorem kid_ev (l : List ByteArray) (hs : ∀ j, j < l.length → (l.getD j ByteArray.empty).size ≤ 500) (b : Nat) (kids : List S27) (i : Int) (t : S27) (hi0 : 0 ≤ i) (hi1 : i < 2) (hkl : kids.length = 2) (ht : rd_T27 kids i = t)
    (hroot : t.f0 < 0 ∨ ∃ m : Nat, t.f0 = m ∧ m < l.length ∧ (lev l b < lev l m ∨ lev l m = lev l b ∧ ((i == 1) != rt l b) = false))
    (hev : Ev (fun k => oriellaw31_levels.f k t.f0 t.f1 t.f2 l) true) (hnext : Ev (fun k => oriellaw31_levels.l0 k l (lev l b) (rt l b) kids 2 (wrap64 (i + 1))) true) :
    Ev (fun k => oriellaw31_levels.l0 k l (lev l b) (rt l b) kids 2 i) true := by
  have fin : Ev (fun k => (oriellaw31_levels.f k t.f0 t.f1 t.f2 l).bind fun z => if z = true then oriellaw31_levels.l0 k l (lev l b) (rt l b) kids 2 (wrap64 (i + 1)) else some false) true := Ev.bind hev (Ev.congr (fun _ => if_pos rfl) hnext)
  have hj : Ev (fun k => oriellaw31_levels.j2 k l (lev l b) (rt l b) kids 2 i false t.f0 t.f1 t.f2) true := Ev.step (fun k => by rw [oriellaw31_levels.j2, if_neg (by simp)]) fin
  rcases hroot with h0 | ⟨m, hm, hml, hlev⟩
  · refine Ev.step (fun k => ?_) fin
    rw [oriellaw31_levels.l0, if_pos hi1, if_pos hi0, if_pos (by omega), ht, if_neg (by omega)]
  · refine Ev.step (f := fun k => (name_Level.f k (l.getD m ByteArray.empty)).bind fun p => if p.1 < lev l b then oriellaw31_levels.j2 k l (lev l b) (rt l b) kids 2 i true t.f0 t.f1 t.f2 else if p.1 = lev l b then oriellaw31_levels.j2 k l (lev l b) (rt l b) kids 2 i ((i == 1) != rt l b) t.f0 t.f1 t.f2 else oriellaw31_levels.j2 k l (lev l b) (rt l b) kids 2 i false t.f0 t.f1 t.f2) (fun k => ?_) (Ev.bind (LevelN _ (sz_all hs m)) ?_)
    · rw [oriellaw31_levels.l0, if_pos hi1, if_pos hi0, if_pos (by omega), ht, if_pos (by omega), if_pos (by omega), if_pos (by omega), show rdOf ByteArray.empty l t.f0 = l.getD m ByteArray.empty by rw [hm]; exact rd_mem l m]
    · have h1 : ¬ lev l m < lev l b := by rcases hlev with h | h <;> omega
      by_cases h2 : lev l m = lev l b
      · have h3 : ((i == 1) != rt l b) = false := by rcases hlev with h | h; omega; exact h.2
        rw [h3]
        exact Ev.congr (fun _ => (if_neg h1).trans (if_pos h2)) hj
      · exact Ev.congr (fun _ => (if_neg h1).trans (if_neg h2)) hj
theorem root_of {l : List ByteArray} {a c : Nat} {t : S27} (h : IsT l a c t) : t.f0 < 0 ∨ ∃ m : Nat, t.f0 = m ∧ a ≤ m ∧ m < c := by
  cases h with
  | leaf a => exact .inl (by show (-1 : Int) < 0; omega)
  | node a b c tl tr hab hbc hA hB hl hr => exact .inr ⟨b, rfl, hab, hbc⟩
theorem levels_ev {l : List ByteArray} (hl60 : l.length ≤ 60) (hs : ∀ j, j < l.length → (l.getD j ByteArray.empty).size ≤ 500) {a c : Nat} {t : S27} (h : IsT l a c t) : c ≤ l.length → Ev (fun k => oriellaw31_levels.f k t.f0 t.f1 t.f2 l) true := by
  induction h with
  | leaf a =>
    intro _
    refine Ev.step (f := fun k => oriellaw31_levels.j0 k l true (-1) a []) (fun k => ?_) (Ev.step (f := fun _ => some true) (fun k => ?_) (Ev.now _))
    · show oriellaw31_levels.f (k + 1) (-1) a [] l = _
      rw [oriellaw31_levels.f, if_pos (by omega)]
    · rw [oriellaw31_levels.j0, if_pos rfl]
      rfl
  | node a b c tl tr hab hbc hA hB hl hr ihl ihr =>
    intro hc
    have e2 : Ev (fun k => oriellaw31_levels.l0 k l (lev l b) (rt l b) [tl, tr] 2 2) true := Ev.step (f := fun _ => some true) (fun k => by rw [oriellaw31_levels.l0, if_neg (by omega)]) (Ev.now _)
    have e1 : Ev (fun k => oriellaw31_levels.l0 k l (lev l b) (rt l b) [tl, tr] 2 1) true := by
      refine kid_ev l hs b [tl, tr] 1 tr (by omega) (by omega) rfl rfl ?_ (ihr hc) (by rw [w12]; exact e2)
      rcases root_of hr with h | ⟨m, hm, h1, h2⟩
      · exact .inl h
      · refine .inr ⟨m, hm, by omega, ?_⟩
        rcases hB m (by omega) h2 with q | ⟨q, q'⟩
        · exact .inl q
        · exact .inr ⟨q, by rw [q']; rfl⟩
    have e0 : Ev (fun k => oriellaw31_levels.l0 k l (lev l b) (rt l b) [tl, tr] 2 0) true := by
      refine kid_ev l hs b [tl, tr] 0 tl (by omega) (by omega) rfl rfl ?_ (ihl (by omega)) (by rw [w01]; exact e1)
      rcases root_of hl with h | ⟨m, hm, h1, h2⟩
      · exact .inl h
      · refine .inr ⟨m, hm, by omega, ?_⟩
        rcases hA m h1 h2 with q | ⟨q, q'⟩
        · exact .inl q
        · exact .inr ⟨q, by rw [q']; rfl⟩
    refine Ev.step (f := fun k => oriellaw31_levels.j0 k l false b (-1) [tl, tr]) (fun k => ?_) (Ev.step (f := fun k => (name_Level.f k (l.getD b ByteArray.empty)).bind fun p => oriellaw31_levels.l0 k l p.1 p.2 [tl, tr] 2 0) (fun k => ?_) (Ev.bind (LevelN _ (sz_all hs b)) e0))
    · show oriellaw31_levels.f (k + 1) b (-1) [tl, tr] l = _
      rw [oriellaw31_levels.f, if_neg (by omega)]
      rfl
    · rw [oriellaw31_levels.j0, if_neg (by simp), if_pos (by omega), if_pos (by omega), rd_mem l b]
      rfl
theorem GroupWhole_true (l : List ByteArray) : Ev (fun k => oriellaw31_GroupWhole.f k l) true := by
  have fin : Ev (fun k => (oriellaw31_alive.f k).bind fun t => some t) true := Ev.bind alive_ev (Ev.now _)
  obtain ⟨b, hb, h2⟩ := few_ev l
  unfold oriellaw31_GroupWhole.f
  refine Ev.bind hb ?_
  by_cases hbt : b = true
  case neg => exact Ev.congr (fun _ => if_neg hbt) fin
  obtain ⟨hl, hs⟩ := h2 hbt
  refine Ev.congr (fun _ => if_pos hbt) ?_
  have hG : group_Group.f l = some (grpOut l) := by
    have hc : ∀ s ∈ l, s.size ≤ 9223372036854775807 := fun s hm => by
      obtain ⟨j, hj, rfl⟩ := List.getElem_of_mem hm
      have := hs j hj
      simp [hj] at this
      omega
    unfold group_Group.f
    rw [if_pos ⟨by omega, hc⟩]
  refine Ev.bind (Ev.congr (fun _ => hG) (Ev.now _)) ?_
  by_cases c : ∃ j, j < l.length ∧ (lv (l.getD j ByteArray.empty)).1 = 0
  · have hg : grpOut l = (0, 0, [], false) := by unfold grpOut; rw [if_pos c]
    rw [hg]
    exact Ev.congr (fun _ => if_neg (by simp)) fin
  · have hg : grpOut l = ((grpB l).f0, (grpB l).f1, (grpB l).f2, true) := by unfold grpOut; rw [if_neg c]
    rw [hg]
    have hT := grpB_is l hs
    have hL := leaves_ev hT
    obtain ⟨S, hS, hP⟩ := signs_ev hT
    rw [Nat.sub_zero] at hL hP
    have hSl : S.length = l.length := by have := hP.length_eq; simpa using this
    have hLv : Ev (fun k => group_Leaves.f k (grpB l).f0 (grpB l).f1 (grpB l).f2) (ints (List.range' 0 (l.length + 1))) := Ev.bind hL (Ev.congr (fun _ => if_pos (by simp [ints]; omega)) (Ev.now _))
    have hSv : Ev (fun k => group_Signs.f k (grpB l).f0 (grpB l).f1 (grpB l).f2) (ints S) := Ev.bind hS (Ev.congr (fun _ => if_pos (by simp [ints]; omega)) (Ev.now _))
    have h0 : List.replicate ((l.length : Int)).toNat (0 : Int) = metL l.length (S.take 0) := by
      rw [Int.toNat_natCast]
      apply List.ext_getElem?
      intro j
      by_cases hj : j < l.length
      · simp [metL, hj]
      · rw [List.getElem?_eq_none (by simp; omega), List.getElem?_eq_none (by rw [metL_len]; omega)]
    refine Ev.congr (fun _ => if_pos rfl) (Ev.bind hLv (Ev.congr (fun _ => (if_pos (by omega)).trans (if_pos (by omega))) (Ev.bind hSv ?_)))
    rw [h0]
    exact l0_ev l _ _ _ _ S l.length hl rfl rfl hP (levels_ev hl hs hT (Nat.le_refl _)) S.length 0 (by omega)
theorem GroupWhole_all (l : List ByteArray) : ∃ k, oriellaw31_GroupWhole.f k l = some true := (GroupWhole_true l).rounds
end Go.Proofs.Ytjnhdoaceegkoaa.PGw
