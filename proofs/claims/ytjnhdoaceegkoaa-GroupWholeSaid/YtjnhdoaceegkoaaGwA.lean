import Derived.Test.YtjnhdoaceegkoaaPGwx
namespace Go.Proofs.Ytjnhdoaceegkoaa.PGw
open Go.RowKit Go.Proofs.YtjnhdoaceegkoaaW.PrintWords Go.Proofs.YtjnhdoaceegkoaaW.PrintLast Go.Proofs.YtjnhdoaceegkoaaW.PrintMore
set_option maxRecDepth 100000 in
theorem alive_true : oriellaw31_alive.f 20 = some true := by decide +kernel
theorem alive_ev : Ev (fun k => oriellaw31_alive.f k) true := Ev.of oriellaw31_alive.mono alive_true
theorem wr64 {n : Int} (h0 : 0 ≤ n) (h : n < 9223372036854775808) : wrap64 n = n := by unfold wrap64; omega
theorem rd_mem (l : List ByteArray) (i : Nat) : rdOf ByteArray.empty l (i : Int) = l.getD i ByteArray.empty := by simp [rdOf]
theorem few_l0 (l : List ByteArray) : ∀ (m i : Nat) (x : Int), i + m = 61 → 0 ≤ x → x ≤ 1000 * i → (∀ j, j < i → j < l.length → mn ((l.getD j ByteArray.empty).size : Int) 1000 ≤ x) → i ≤ l.length →
    ∃ b, Ev (fun k => oriellaw31_few.l0 k l x i) b ∧ (b = true → l.length ≤ 60 ∧ ∀ j, j < l.length → (l.getD j ByteArray.empty).size ≤ 500) := by
  intro m
  induction m with
  | zero =>
    intro i x hi h0 h1 hs hil
    by_cases hl : i < l.length
    · refine ⟨false, Ev.step (f := fun _ => some false) (fun k => ?_) (Ev.now _), by simp⟩
      rw [oriellaw31_few.l0, if_pos (by omega), if_neg (by omega), if_neg (by omega)]
    · refine ⟨false, Ev.step (f := fun _ => some false) (fun k => ?_) (Ev.now _), by simp⟩
      rw [oriellaw31_few.l0, if_neg (by omega), if_neg (by omega)]
  | succ m ih =>
    intro i x hi h0 h1 hs hil
    by_cases hl : i < l.length
    · have hm : 0 ≤ mn ((l.getD i ByteArray.empty).size : Int) 1000 ∧ mn ((l.getD i ByteArray.empty).size : Int) 1000 ≤ 1000 := by unfold mn; split <;> omega
      obtain ⟨b, hb, hb2⟩ := ih (i + 1) (x + mn ((l.getD i ByteArray.empty).size : Int) 1000) (by omega) (by omega) (by omega) (fun j hj hjl => by
        by_cases e : j = i
        · subst e; omega
        · have := hs j (by omega) hjl; omega) (by omega)
      refine ⟨b, Ev.step (fun k => ?_) hb, hb2⟩
      rw [oriellaw31_few.l0, if_pos (by omega), if_pos (by omega), if_pos (by omega), rd_mem l i, wr64 (by omega) (by omega), wr64 (by omega) (by omega)]
      rfl
    · refine ⟨decide (x ≤ 500), Ev.step (f := fun _ => some (decide (x ≤ 500))) (fun k => ?_) (Ev.now _), fun hb => ⟨by omega, fun j hj => ?_⟩⟩
      · rw [oriellaw31_few.l0, if_neg (by omega), if_pos (by omega)]
      · have h2 := hs j (by omega) hj
        have h3 : x ≤ 500 := by simpa using hb
        unfold mn at h2
        split at h2 <;> omega
theorem few_ev (l : List ByteArray) : ∃ b, Ev (fun k => oriellaw31_few.f k l) b ∧ (b = true → l.length ≤ 60 ∧ ∀ j, j < l.length → (l.getD j ByteArray.empty).size ≤ 500) :=
  few_l0 l 61 0 0 (by omega) (by omega) (by omega) (fun j h => by omega) (Nat.zero_le _)

/-- a sign's level, by its first byte -/
def LB (c : Int) : Int × Bool := if c = 42 ∨ c = 47 ∨ c = 37 then (7, false) else if c = 43 ∨ c = 45 then (6, false) else if c = 94 ∨ c = 64 ∨ c = 58 then (5, true) else if c = 61 ∨ c = 60 ∨ c = 62 ∨ c = 33 then (4, false) else if c = 38 ∨ c = 124 then (3, false) else (2, false)
theorem lv_eq (s : ByteArray) (hs : s.size ≤ 1000) : lv s = if kindB s = 9 then LB (bt s 0) else (0, false) := by
  unfold lv name_Level.f name_Kind.f
  rw [if_pos (by omega)]
  simp only [Option.bind_some]
  by_cases hk : kindB s = 9
  · have := kind_9 hk
    rw [if_pos hk, if_pos hk, if_pos (by omega)]
    have h : ∀ n : Fin 256, ((if ((n.val : Nat) : Int) = 42 then (name_Level.j0 10 (n.val : Nat) (((n.val : Nat) : Int) == 42)) else (if ((n.val : Nat) : Int) = 47 then (name_Level.j0 10 (n.val : Nat) (((n.val : Nat) : Int) == 47)) else (name_Level.j0 10 (n.val : Nat) (((n.val : Nat) : Int) == 37)))).getD (0, false)) = LB (n.val : Nat) := by decide +kernel
    obtain ⟨h0, h1⟩ := bt_range s 0
    obtain ⟨m, hm⟩ : ∃ m : Nat, bt s 0 = m := ⟨(bt s 0).toNat, by omega⟩
    rw [hm]
    exact h ⟨m, by omega⟩
  · rw [if_neg hk, if_neg hk]; first | done | rfl
namespace GPlain
variable {T : Type} (leaf : Nat → T) (node : Nat → T → T → T) (lev : Nat → Int) (rt : Nat → Bool)

/-- the document's term of the signs from a up to c -/
inductive IsG : Nat → Nat → T → Prop
  | leaf (a : Nat) : IsG a a (leaf a)
  | node (a b c : Nat) (l r : T) (hab : a ≤ b) (hbc : b < c)
      (hA : ∀ m, a ≤ m → m < b → lev b < lev m ∨ lev m = lev b ∧ rt b = false)
      (hB : ∀ m, b < m → m < c → lev b < lev m ∨ lev m = lev b ∧ rt b = true)
      (hl : IsG a b l) (hr : IsG (b + 1) c r) : IsG a c (node b l r)

theorem IsG.le {a c : Nat} {t : T} (h : IsG leaf node lev rt a c t) : a ≤ c := by
  induction h with
  | leaf a => exact Nat.le_refl _
  | node a b c l r hab hbc _ _ _ _ _ _ => omega

theorem IsG.uniq (hrt : ∀ i j, lev i = lev j → rt i = rt j) {a c : Nat} {t : T} (h : IsG leaf node lev rt a c t) : ∀ {t' : T}, IsG leaf node lev rt a c t' → t = t' := by
  induction h with
  | leaf a =>
    intro t' h'
    cases h' with
    | leaf => rfl
    | node _ b c l r hab hbc => omega
  | node a b c l r hab hbc hA hB hl hr ihl ihr =>
    intro t' h'
    cases h' with
    | leaf => omega
    | node _ b' _ l' r' hab' hbc' hA' hB' hl' hr' =>
      have e : b = b' := by
        rcases Nat.lt_trichotomy b b' with h | h | h
        · rcases hA' b hab h with h1 | ⟨h1, h1'⟩ <;> rcases hB b' h hbc' with h2 | ⟨h2, h2'⟩
          · omega
          · omega
          · omega
          · rw [hrt _ _ h2, h2'] at h1'; cases h1'
        · exact h
        · rcases hA b' hab' h with h1 | ⟨h1, h1'⟩ <;> rcases hB' b h hbc with h2 | ⟨h2, h2'⟩
          · omega
          · omega
          · omega
          · rw [hrt _ _ h2, h2'] at h1'; cases h1'
      subst e
      rw [ihl hl', ihr hr']

/-- where the range of the topmost term begins -/
def lo : List Nat → Nat
  | [] => 0
  | w :: _ => w + 1

/-- is w applied ahead of i? -/
def stronger (w i : Nat) : Prop := lev i < lev w ∨ lev w = lev i ∧ rt i = false
instance (w i : Nat) : Decidable (stronger lev rt w i) := by unfold stronger; infer_instance

/-- the stacks at place i: signs that wait, terms: the topmost first -/
def Inv : Nat → List Nat → List T → Prop
  | i, [], [t] => IsG leaf node lev rt 0 i t
  | i, w :: ws, t :: ts => w < i ∧ IsG leaf node lev rt (w + 1) i t ∧ (∀ m, w < m → m < i → lev w < lev m ∨ lev m = lev w ∧ rt w = true) ∧
      (∀ m, lo ws ≤ m → m < w → lev w < lev m ∨ lev m = lev w ∧ rt w = false) ∧
      (∀ w' r, ws = w' :: r → lev w' < lev w ∨ lev w = lev w' ∧ rt w' = true) ∧ Inv w ws ts
  | _, _, _ => False

theorem Inv.len {i : Nat} {ws : List Nat} {ts : List T} (h : Inv leaf node lev rt i ws ts) : ts.length = ws.length + 1 := by
  induction ws generalizing i ts with
  | nil =>
    match ts, h with
    | [t], _ => rfl
  | cons w ws ih =>
    match ts, h with
    | t :: ts, h => have := ih h.2.2.2.2.2; simp [this]

theorem Inv.lt {i : Nat} {ws : List Nat} {ts : List T} (h : Inv leaf node lev rt i ws ts) : ∀ w ∈ ws, w < i := by
  induction ws generalizing i ts with
  | nil => simp
  | cons w ws ih =>
    match ts, h with
    | t :: ts, h =>
      intro x hx
      rcases List.mem_cons.1 hx with rfl | hx
      · exact h.1
      · have := ih h.2.2.2.2.2 x hx; have := h.1; omega

theorem Inv.start : Inv leaf node lev rt 0 [] [leaf 0] := IsG.leaf 0

/-- one sign is applied -/
theorem Inv.pop {i w : Nat} {ws : List Nat} {t u : T} {ts : List T} (h : Inv leaf node lev rt i (w :: ws) (t :: u :: ts)) :
    Inv leaf node lev rt i ws (node w u t :: ts) := by
  obtain ⟨h1, h2, h3, h4, h5, h6⟩ := h
  match ws, ts, h6 with
  | [], [], h6 => exact IsG.node 0 w i u t (by omega) h1 (fun m a b => h4 m (by simp [lo]) b) h3 h6 h2
  | w' :: ws, ts, ⟨g1, g2, g3, g4, g5, g6⟩ =>
    refine ⟨by omega, IsG.node (w' + 1) w i u t (by omega) h1 (fun m a b => h4 m (by simpa [lo] using a) b) h3 g2 h2, ?_, g4, g5, g6⟩
    intro m hm1 hm2
    rcases Nat.lt_trichotomy m w with h | h | h
    · exact g3 m hm1 h
    · subst h; exact h5 w' ws rfl
    · rcases h5 w' ws rfl with k | ⟨k, k'⟩ <;> rcases h3 m h hm2 with q | ⟨q, q'⟩
      · left; omega
      · left; omega
      · left; omega
      · right; exact ⟨by omega, k'⟩

/-- all between the topmost sign and i binds more strongly than i -/
def Over (i : Nat) (ws : List Nat) : Prop := ∀ m, lo ws ≤ m → m < i → lev i < lev m ∨ lev m = lev i ∧ rt i = false

theorem Over.pop {i w : Nat} {ws : List Nat} {t : T} {ts : List T} (h : Inv leaf node lev rt i (w :: ws) (t :: ts)) (ho : Over lev rt i (w :: ws)) (hs : stronger lev rt w i) :
    Over lev rt i ws := by
  obtain ⟨h1, h2, h3, h4, h5, h6⟩ := h
  intro m hm1 hm2
  rcases Nat.lt_trichotomy m w with h | h | h
  · rcases h4 m hm1 h with q | ⟨q, q'⟩ <;> rcases hs with k | ⟨k, k'⟩
    · left; omega
    · left; omega
    · left; omega
    · right; exact ⟨by omega, k'⟩
  · subst h; exact hs
  · exact ho m (by show w + 1 ≤ m; omega) hm2

theorem Inv.push {i : Nat} {ws : List Nat} {ts : List T} (h : Inv leaf node lev rt i ws ts) (ho : Over lev rt i ws) (hs : ∀ w r, ws = w :: r → ¬ stronger lev rt w i) (hrt : ∀ i j, lev i = lev j → rt i = rt j) :
    Inv leaf node lev rt (i + 1) (i :: ws) (leaf (i + 1) :: ts) := by
  match ts, h with
  | t :: ts, h =>
    refine ⟨by omega, IsG.leaf _, fun m a b => by omega, ho, ?_, h⟩
    intro w' r e
    have := hs w' r e
    unfold stronger at this
    by_cases k : lev w' < lev i
    · exact .inl k
    · right
      have k1 : lev i = lev w' := by
        rcases Int.lt_trichotomy (lev i) (lev w') with q | q | q
        · exact absurd (.inl q) this
        · exact q
        · exact absurd q k
      refine ⟨k1, ?_⟩
      cases hq : rt w' with
      | true => rfl
      | false => exact absurd (.inr ⟨k1.symm, (hrt _ _ k1).trans hq⟩) this
  | [], h => cases ws <;> exact h.elim

/-- the least sign of some, as the document's loop finds it -/
def Best (a b i : Nat) : Prop := a ≤ b ∧ (∀ m, a ≤ m → m < b → lev b < lev m ∨ lev m = lev b ∧ rt b = false) ∧ (∀ m, b < m → m < i → lev b < lev m ∨ lev m = lev b ∧ rt b = true)

theorem Best.take {a b i : Nat} (h : Best lev rt a b i) (hb : b < i) (hn : lev i < lev b ∨ lev i = lev b ∧ rt i = false) : Best lev rt a i (i + 1) := by
  obtain ⟨h1, h2, h3⟩ := h
  refine ⟨by omega, ?_, fun m _ _ => by omega⟩
  intro m hm1 hm2
  rcases Nat.lt_trichotomy m b with h | h | h
  · rcases h2 m hm1 h with q | ⟨q, q'⟩ <;> rcases hn with k | ⟨k, k'⟩
    · left; omega
    · left; omega
    · left; omega
    · right; exact ⟨by omega, k'⟩
  · subst h; rcases hn with k | ⟨k, k'⟩
    · left; exact k
    · right; exact ⟨k.symm, k'⟩
  · rcases h3 m h hm2 with q | ⟨q, q'⟩ <;> rcases hn with k | ⟨k, k'⟩
    · left; omega
    · left; omega
    · left; omega
    · right; exact ⟨by omega, k'⟩

theorem Best.keep (hrt : ∀ i j, lev i = lev j → rt i = rt j) {a b i : Nat} (h : Best lev rt a b i) (hn : ¬ (lev i < lev b ∨ lev i = lev b ∧ rt i = false)) : Best lev rt a b (i + 1) := by
  obtain ⟨h1, h2, h3⟩ := h
  refine ⟨h1, h2, ?_⟩
  intro m hm1 hm2
  by_cases e : m = i
  · subst e
    by_cases k : lev b < lev m
    · exact .inl k
    · right
      have k1 : lev m = lev b := by
        rcases Int.lt_trichotomy (lev m) (lev b) with q | q | q
        · exact absurd (.inl q) hn
        · exact q
        · exact absurd q k
      refine ⟨k1, ?_⟩
      cases hq : rt b with
      | true => rfl
      | false => exact absurd (.inr ⟨k1, (hrt _ _ k1).trans hq⟩) hn
  · exact h3 m hm1 (by omega)

theorem Best.one (a : Nat) : Best lev rt a a (a + 1) := ⟨Nat.le_refl _, fun m _ _ => by omega, fun m _ _ => by omega⟩
end GPlain
theorem w01 : wrap64 (0 + 1) = 1 := by unfold wrap64; omega
theorem w12 : wrap64 (1 + 1) = 2 := by unfold wrap64; omega
def lev (l : List ByteArray) (i : Nat) : Int := (lv (l.getD i ByteArray.empty)).1
def rt (l : List ByteArray) (i : Nat) : Bool := (lv (l.getD i ByteArray.empty)).2
theorem LB_right (c : Int) : (LB c).2 = decide ((LB c).1 = 5) := by
  unfold LB
  repeat' split
  all_goals rfl
theorem lv_right (s : ByteArray) (hs : s.size ≤ 1000) : (lv s).2 = decide ((lv s).1 = 5) := by
  rw [lv_eq s hs]
  split
  · exact LB_right _
  · rfl
theorem sz_all {l : List ByteArray} (hs : ∀ j, j < l.length → (l.getD j ByteArray.empty).size ≤ 500) (i : Nat) : (l.getD i ByteArray.empty).size ≤ 1000 := by
  by_cases h : i < l.length
  · have := hs i h; omega
  · rw [List.getD_eq_getElem?_getD, List.getElem?_eq_none (by omega)]
    simp
theorem hrt {l : List ByteArray} (hs : ∀ j, j < l.length → (l.getD j ByteArray.empty).size ≤ 500) (i j : Nat) (h : lev l i = lev l j) : rt l i = rt l j := by
  unfold rt
  rw [lv_right _ (sz_all hs i), lv_right _ (sz_all hs j)]
  unfold lev at h
  rw [h]
abbrev IsT (l : List ByteArray) (a c : Nat) (t : S27) : Prop := GPlain.IsG leafT nodeT (lev l) (rt l) a c t
theorem strB_iff (l : List ByteArray) (w i : Nat) : strB (l.getD w ByteArray.empty) (l.getD i ByteArray.empty) = true ↔ GPlain.stronger (lev l) (rt l) w i := by
  unfold strB GPlain.stronger lev rt
  simp
theorem popA_inv (l : List ByteArray) (i : Nat) : ∀ (ws : List Nat) (ts : List S27), GPlain.Inv leafT nodeT (lev l) (rt l) i ws ts → GPlain.Over (lev l) (rt l) i ws →
    GPlain.Inv leafT nodeT (lev l) (rt l) i (popA l (l.getD i ByteArray.empty) ws ts).1 (popA l (l.getD i ByteArray.empty) ws ts).2 ∧ GPlain.Over (lev l) (rt l) i (popA l (l.getD i ByteArray.empty) ws ts).1 ∧
    ∀ w r, (popA l (l.getD i ByteArray.empty) ws ts).1 = w :: r → ¬ GPlain.stronger (lev l) (rt l) w i
  | [], ts, h, ho => by
    have e : popA l (l.getD i ByteArray.empty) [] ts = ([], ts) := by cases ts <;> rfl
    rw [e]
    exact ⟨h, ho, fun w r e => by cases e⟩
  | w :: ws, [], h, ho => h.elim
  | w :: ws, [b], h, ho => by
    have := h.len
    simp at this
  | w :: ws, b :: a :: ts, h, ho => by
    by_cases c : strB (l.getD w ByteArray.empty) (l.getD i ByteArray.empty) = true
    · have e : popA l (l.getD i ByteArray.empty) (w :: ws) (b :: a :: ts) = popA l (l.getD i ByteArray.empty) ws (nodeT w a b :: ts) := by
        simp only [popA]
        rw [if_pos c]
      rw [e]
      exact popA_inv l i ws _ h.pop (GPlain.Over.pop _ _ _ _ h ho ((strB_iff l w i).1 c))
    · have e : popA l (l.getD i ByteArray.empty) (w :: ws) (b :: a :: ts) = (w :: ws, b :: a :: ts) := by
        simp only [popA]
        rw [if_neg c]
      rw [e]
      refine ⟨h, ho, fun w' r e => ?_⟩
      injection e with e1 e2
      rw [← e1]
      exact fun hh => c ((strB_iff l w i).2 hh)
theorem runA_inv (l : List ByteArray) (hs : ∀ j, j < l.length → (l.getD j ByteArray.empty).size ≤ 500) : ∀ i, GPlain.Inv leafT nodeT (lev l) (rt l) i (runA l i).1 (runA l i).2 ∧ i ≤ GPlain.lo (runA l i).1
  | 0 => ⟨GPlain.Inv.start leafT nodeT (lev l) (rt l), Nat.zero_le _⟩
  | i + 1 => by
    obtain ⟨h1, h2⟩ := runA_inv l hs i
    obtain ⟨h3, h4, h5⟩ := popA_inv l i _ _ h1 (fun m ha hb => by omega)
    exact ⟨GPlain.Inv.push _ _ _ _ h3 h4 h5 (hrt hs), Nat.le_refl _⟩
theorem finA_inv (l : List ByteArray) (n : Nat) : ∀ (ws : List Nat) (ts : List S27), GPlain.Inv leafT nodeT (lev l) (rt l) n ws ts → IsT l 0 n ((finA ws ts).headD z27)
  | [], [t], h => h
  | [], [], h => h.elim
  | [], _ :: _ :: _, h => h.elim
  | w :: ws, [], h => h.elim
  | w :: ws, [b], h => by
    have := h.len
    simp at this
  | w :: ws, b :: a :: ts, h => by
    simp only [finA]
    exact finA_inv l n ws _ h.pop
theorem grpB_is (l : List ByteArray) (hs : ∀ j, j < l.length → (l.getD j ByteArray.empty).size ≤ 500) : IsT l 0 l.length (grpB l) := finA_inv l l.length _ _ (runA_inv l hs l.length).1
end Go.Proofs.Ytjnhdoaceegkoaa.PGw
