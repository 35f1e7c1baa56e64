import Derived.Test.YtjnhdoaceegkoaaPMcx
namespace Go.Proofs.Ytjnhdoaceegkoaa.PMc
open Go.RowKit Go.Proofs.YtjnhdoaceegkoaaW.PrintWords Go.Proofs.YtjnhdoaceegkoaaW.PrintLast Go.Proofs.YtjnhdoaceegkoaaW.PrintMore
set_option linter.unusedVariables false
/-! ### linked: what pairs lead to -/
namespace PL
inductive Rch (l : List S51) (a : Int) : Int → Prop
  | refl : Rch l a a
  | fwd {x : Int} {p : S51} : Rch l a x → p ∈ l → p.f0 = x → Rch l a p.f1
  | bwd {x : Int} {p : S51} : Rch l a x → p ∈ l → p.f1 = x → Rch l a p.f0
theorem Rch.trans {l : List S51} {a b c : Int} (h : Rch l a b) (k : Rch l b c) : Rch l a c := by
  induction k with
  | refl => exact h
  | fwd _ hp he ih => exact Rch.fwd ih hp he
  | bwd _ hp he ih => exact Rch.bwd ih hp he
theorem Rch.symm {l : List S51} {a b : Int} (h : Rch l a b) : Rch l b a := by
  induction h with
  | refl => exact Rch.refl
  | @fwd x p _ hp he ih => exact Rch.trans (by have := Rch.bwd (Rch.refl (l := l) (a := p.f1)) hp rfl; rw [he] at this; exact this) ih
  | @bwd x p _ hp he ih => exact Rch.trans (by have := Rch.fwd (Rch.refl (l := l) (a := p.f0)) hp rfl; rw [he] at this; exact this) ih
def Clo (l : List S51) (s : List Int) : Prop := ∀ p ∈ l, (p.f0 ∈ s ↔ p.f1 ∈ s)
theorem Rch.mem {l : List S51} {s : List Int} {a b : Int} (hc : Clo l s) (ha : a ∈ s) (h : Rch l a b) : b ∈ s := by
  induction h with
  | refl => exact ha
  | fwd _ hp he ih => exact (hc _ hp).1 (by rw [he]; exact ih)
  | bwd _ hp he ih => exact (hc _ hp).2 (by rw [he]; exact ih)
theorem Rch.mono {l l' : List S51} {a b : Int} (hs : ∀ p ∈ l, p ∈ l') (h : Rch l a b) : Rch l' a b := by
  induction h with
  | refl => exact Rch.refl
  | fwd _ hp he ih => exact Rch.fwd ih (hs _ hp) he
  | bwd _ hp he ih => exact Rch.bwd ih (hs _ hp) he
theorem nodup_len : ∀ (s u : List Int), s.Nodup → (∀ x ∈ s, x ∈ u) → s.length ≤ u.length
  | [], _, _, _ => Nat.zero_le _
  | x :: s, u, hn, hs => by
    have hx : x ∈ u := hs x (by simp)
    have hn' := List.nodup_cons.1 hn
    have h1 := nodup_len s (u.erase x) hn'.2 (fun y hy => by
      have hyx : y ≠ x := fun e => hn'.1 (by rw [← e]; exact hy)
      exact (List.mem_erase_of_ne hyx).2 (hs y (by simp [hy])))
    have h2 := List.length_erase_of_mem hx
    have h3 : 0 < u.length := List.length_pos_of_mem hx
    simp only [List.length_cons]
    omega
/-! #### the program's: a queue -/
def swp (p : S51) : S51 := ⟨p.f1, p.f0⟩
def stp (x : Int) (s : List Int × List Int) (q : S51) : List Int × List Int :=
  if q.f0 = x then (if q.f1 ∈ s.1 then s else (s.1 ++ [q.f1], s.2 ++ [q.f1])) else s
def scan (x : Int) (l : List S51) (s : List Int × List Int) : List Int × List Int := l.foldl (fun s p => stp x (stp x s p) (swp p)) s
structure Sc (l : List S51) (x : Int) (s s' : List Int × List Int) : Prop where
  sub : ∀ y ∈ s.1, y ∈ s'.1
  new : ∀ y ∈ s'.1, y ∈ s.1 ∨ (y ∈ s'.2 ∧ Rch l x y)
  old : ∀ y ∈ s.2, y ∈ s'.2
  op : ∀ y ∈ s'.2, y ∈ s.2 ∨ y ∈ s'.1
  nd : s.1.Nodup → s'.1.Nodup
  len : s'.1.length + s.2.length = s.1.length + s'.2.length
theorem Sc.refl (l : List S51) (x : Int) (s : List Int × List Int) : Sc l x s s := ⟨fun _ h => h, fun _ h => .inl h, fun _ h => h, fun _ h => .inl h, fun h => h, rfl⟩
theorem Sc.trans {l : List S51} {x : Int} {s t u : List Int × List Int} (h : Sc l x s t) (k : Sc l x t u) : Sc l x s u :=
  ⟨fun y hy => k.sub y (h.sub y hy), fun y hy => by
    rcases k.new y hy with h1 | h1
    · rcases h.new y h1 with h2 | h2
      · exact .inl h2
      · exact .inr ⟨k.old y h2.1, h2.2⟩
    · exact .inr h1, fun y hy => k.old y (h.old y hy), fun y hy => by
    rcases k.op y hy with h1 | h1
    · rcases h.op y h1 with h2 | h2
      · exact .inl h2
      · exact .inr (k.sub y h2)
    · exact .inr h1, fun hn => k.nd (h.nd hn), by have := h.len; have := k.len; omega⟩
theorem stp_sc {l : List S51} {x : Int} (s : List Int × List Int) (q : S51) (hq : q.f0 = x → Rch l x q.f1) : Sc l x s (stp x s q) := by
  unfold stp
  split
  · rename_i he
    split
    · exact Sc.refl _ _ _
    · rename_i hn
      refine ⟨fun y hy => by simp [hy], fun y hy => ?_, fun y hy => by simp [hy], fun y hy => ?_, fun h => ?_, by simp; omega⟩
      · simp only [List.mem_append, List.mem_singleton] at hy
        rcases hy with hy | hy
        · exact .inl hy
        · exact .inr ⟨by simp [hy], by rw [hy]; exact hq he⟩
      · simp only [List.mem_append, List.mem_singleton] at hy ⊢
        rcases hy with hy | hy
        · exact .inl hy
        · exact .inr (.inr hy)
      · exact List.nodup_append.2 ⟨h, by simp, fun a ha b hb => by simp at hb; subst hb; exact fun e => hn (by rw [← e]; exact ha)⟩
  · exact Sc.refl _ _ _
theorem stp_in (x : Int) (s : List Int × List Int) (q : S51) (h : q.f0 = x) : q.f1 ∈ (stp x s q).1 := by
  unfold stp
  rw [if_pos h]
  split
  · assumption
  · simp
theorem scan_sc (l : List S51) (x : Int) : ∀ (m : List S51) (s : List Int × List Int), (∀ p ∈ m, p ∈ l) → Sc l x s (scan x m s) ∧ ∀ p ∈ m, (p.f0 = x → p.f1 ∈ (scan x m s).1) ∧ (p.f1 = x → p.f0 ∈ (scan x m s).1)
  | [], s, _ => ⟨Sc.refl _ _ _, by simp⟩
  | p :: m, s, hm => by
    have hp : p ∈ l := hm p (by simp)
    have h1 : Sc l x s (stp x s p) := stp_sc s p (fun e => e ▸ Rch.fwd (Rch.refl (l := l) (a := p.f0)) hp rfl)
    have h2 : Sc l x (stp x s p) (stp x (stp x s p) (swp p)) := stp_sc _ _ (fun e => by
      have e' : p.f1 = x := e
      exact e' ▸ Rch.bwd (Rch.refl (l := l) (a := p.f1)) hp rfl)
    obtain ⟨h3, h4⟩ := scan_sc l x m (stp x (stp x s p) (swp p)) (fun q hq => hm q (by simp [hq]))
    refine ⟨(h1.trans h2).trans h3, fun q hq => ?_⟩
    rcases List.mem_cons.1 hq with rfl | hq
    · refine ⟨fun e => h3.sub _ (h2.sub _ (stp_in x s q e)), fun e => h3.sub _ ?_⟩
      exact stp_in x (stp x s q) (swp q) e
    · exact h4 q hq
/-- what holds of the queue -/
structure Qi (l : List S51) (a b : Int) (seen op : List Int) : Prop where
  start : a ∈ seen
  sound : ∀ y ∈ seen, Rch l a y
  ops : ∀ y ∈ op, y ∈ seen
  done : ∀ y ∈ seen, y ∉ op → y ≠ b ∧ ∀ p ∈ l, (p.f0 = y → p.f1 ∈ seen) ∧ (p.f1 = y → p.f0 ∈ seen)
  nd : seen.Nodup
theorem Qi.univ {l : List S51} {a b : Int} {seen op : List Int} (h : Qi l a b seen op) : seen.length ≤ 1 + 2 * l.length := by
  have := nodup_len seen (a :: (l.map (·.f0) ++ l.map (·.f1))) h.nd (fun x hx => by
    have hr := h.sound x hx
    cases hr with
    | refl => simp
    | fwd _ hp _ => simp only [List.mem_cons, List.mem_append, List.mem_map]; exact .inr (.inr ⟨_, hp, rfl⟩)
    | bwd _ hp _ => simp only [List.mem_cons, List.mem_append, List.mem_map]; exact .inr (.inl ⟨_, hp, rfl⟩))
  simp at this
  omega
theorem Qi.step {l : List S51} {a b x : Int} {seen op : List Int} (h : Qi l a b seen (x :: op)) (hx : x ≠ b) :
    Qi l a b (scan x l (seen, op)).1 (scan x l (seen, op)).2 ∧ (scan x l (seen, op)).1.length + op.length = seen.length + (scan x l (seen, op)).2.length := by
  obtain ⟨hs, hn⟩ := scan_sc l x l (seen, op) (fun _ h => h)
  have hxs : x ∈ seen := h.ops x (by simp)
  refine ⟨⟨hs.sub _ h.start, fun y hy => ?_, fun y hy => ?_, fun y hy hyo => ?_, hs.nd h.nd⟩, hs.len⟩
  · rcases hs.new y hy with h1 | h1
    · exact h.sound y h1
    · exact (h.sound x hxs).trans h1.2
  · rcases hs.op y hy with h1 | h1
    · exact hs.sub y (h.ops y (by simp [h1]))
    · exact h1
  · rcases hs.new y hy with h1 | h1
    · by_cases e : y = x
      · subst e
        exact ⟨hx, hn⟩
      · obtain ⟨d1, d2⟩ := h.done y h1 (by
          intro hc
          rcases List.mem_cons.1 hc with hc | hc
          · exact e hc
          · exact hyo (hs.old y hc))
        exact ⟨d1, fun p hp => ⟨fun e => hs.sub _ ((d2 p hp).1 e), fun e => hs.sub _ ((d2 p hp).2 e)⟩⟩
    · exact absurd h1.1 hyo
theorem Qi.stop {l : List S51} {a b : Int} {seen : List Int} (h : Qi l a b seen []) : ¬ Rch l a b := by
  intro hr
  have hc : Clo l seen := fun p hp => ⟨fun h1 => ((h.done _ h1 (by simp)).2 p hp).1 rfl, fun h1 => ((h.done _ h1 (by simp)).2 p hp).2 rfl⟩
  have hb := Rch.mem hc h.start hr
  exact (h.done b hb (by simp)).1 rfl
/-! #### the document's: rounds -/
def stR (met : List Int) (p : S51) : List Int := if p.f0 ∈ met then (if p.f1 ∈ met then met else met ++ [p.f1]) else (if p.f1 ∈ met then met ++ [p.f0] else met)
def rnd (l : List S51) (met : List Int) : List Int := l.foldl stR met
theorem stR_mem {met : List Int} {p : S51} {y : Int} (h : y ∈ met) : y ∈ stR met p := by
  unfold stR
  split <;> split <;> simp [h]
theorem stR_sound {l : List S51} {a : Int} {met : List Int} {p : S51} (hp : p ∈ l) (h : ∀ y ∈ met, Rch l a y) : ∀ y ∈ stR met p, Rch l a y := by
  intro y hy
  unfold stR at hy
  split at hy <;> split at hy
  · exact h y hy
  · rename_i h0 _
    simp only [List.mem_append, List.mem_singleton] at hy
    rcases hy with hy | hy
    · exact h y hy
    · rw [hy]; exact Rch.fwd (h _ h0) hp rfl
  · rename_i _ h1
    simp only [List.mem_append, List.mem_singleton] at hy
    rcases hy with hy | hy
    · exact h y hy
    · rw [hy]; exact Rch.bwd (h _ h1) hp rfl
  · exact h y hy
theorem fold_mem {y : Int} : ∀ (m : List S51) (met : List Int), y ∈ met → y ∈ m.foldl stR met
  | [], _, h => h
  | p :: m, met, h => fold_mem m (stR met p) (stR_mem h)
theorem fold_sound {l : List S51} {a : Int} : ∀ (m : List S51) (met : List Int), (∀ p ∈ m, p ∈ l) → (∀ y ∈ met, Rch l a y) → ∀ y ∈ m.foldl stR met, Rch l a y
  | [], _, _, h => h
  | p :: m, met, hm, h => fold_sound m (stR met p) (fun q hq => hm q (by simp [hq])) (stR_sound (hm p (by simp)) h)
def both (met : List Int) (p : S51) : Bool := decide (p.f0 ∈ met) && decide (p.f1 ∈ met)
theorem stR_turn (met : List Int) (p : S51) : (stR met p = met ∧ (p.f0 ∈ met ↔ p.f1 ∈ met)) ∨ (both met p = false ∧ both (stR met p) p = true) := by
  unfold stR both
  by_cases h0 : p.f0 ∈ met <;> by_cases h1 : p.f1 ∈ met <;> simp [h0, h1]
theorem fold_turn : ∀ (m : List S51) (met : List Int), (m.foldl stR met = met ∧ ∀ p ∈ m, (p.f0 ∈ met ↔ p.f1 ∈ met)) ∨ ∃ p ∈ m, both met p = false ∧ both (m.foldl stR met) p = true
  | [], _ => .inl ⟨rfl, by simp⟩
  | p :: m, met => by
    rcases stR_turn met p with ⟨h1, h2⟩ | ⟨h1, h2⟩
    · rcases fold_turn m met with ⟨h3, h4⟩ | ⟨q, h3, h4, h5⟩
      · refine .inl ⟨by simp only [List.foldl_cons, h1, h3], fun q hq => ?_⟩
        rcases List.mem_cons.1 hq with rfl | hq
        · exact h2
        · exact h4 q hq
      · exact .inr ⟨q, by simp [h3], h4, by simp only [List.foldl_cons, h1, h5]⟩
    · refine .inr ⟨p, by simp, h1, ?_⟩
      unfold both at h2 ⊢
      rw [Bool.and_eq_true, decide_eq_true_eq, decide_eq_true_eq] at h2
      rw [Bool.and_eq_true, decide_eq_true_eq, decide_eq_true_eq]
      exact ⟨fold_mem m _ h2.1, fold_mem m _ h2.2⟩
theorem filter_lt {α : Type} {P Q : α → Bool} : ∀ (l : List α), (∀ x ∈ l, P x = true → Q x = true) → (∃ x ∈ l, P x = false ∧ Q x = true) → (l.filter P).length < (l.filter Q).length
  | [], _, h => by obtain ⟨x, hx, _⟩ := h; simp at hx
  | x :: l, hpq, h => by
    have hle : ∀ l : List α, (∀ x ∈ l, P x = true → Q x = true) → (l.filter P).length ≤ (l.filter Q).length := by
      intro l
      induction l with
      | nil => intro _; simp
      | cons y l ih =>
        intro h
        have := ih (fun z hz => h z (by simp [hz]))
        have hy := h y (by simp)
        cases hP : P y <;> cases hQ : Q y <;> simp_all <;> omega
    obtain ⟨y, hy, h1, h2⟩ := h
    rcases List.mem_cons.1 hy with rfl | hy
    · have := hle l (fun z hz => hpq z (by simp [hz]))
      simp [h1, h2]
      omega
    · have := filter_lt l (fun z hz => hpq z (by simp [hz])) ⟨y, hy, h1, h2⟩
      have hx := hpq x (by simp)
      cases hP : P x <;> cases hQ : Q x <;> simp_all <;> omega
/-- after as many rounds as there are pairs all is closed -/
def rnds (l : List S51) : Nat → List Int → List Int
  | 0, met => met
  | n + 1, met => rnds l n (rnd l met)
theorem Clo_rnd {l : List S51} {met : List Int} (h : Clo l met) : rnd l met = met := by
  unfold rnd
  rcases fold_turn l met with h1 | ⟨p, hp, h1, h2⟩
  · exact h1.1
  · exfalso
    have hc := h p hp
    have : ∀ m : List S51, (∀ q ∈ m, q ∈ l) → m.foldl stR met = met := by
      intro m
      induction m with
      | nil => intro _; rfl
      | cons q m ih =>
        intro hm
        have hq := h q (hm q (by simp))
        have e : stR met q = met := by
          unfold stR
          by_cases h0 : q.f0 ∈ met
          · rw [if_pos h0, if_pos (hq.1 h0)]
          · rw [if_neg h0, if_neg (fun h1 => h0 (hq.2 h1))]
        simp only [List.foldl_cons, e]
        exact ih (fun r hr => hm r (by simp [hr]))
    rw [this l (fun _ h => h)] at h2
    rw [h1] at h2
    cases h2
theorem Clo_rnds {l : List S51} {met : List Int} (h : Clo l met) : ∀ n, rnds l n met = met
  | 0 => rfl
  | n + 1 => by simp only [rnds, Clo_rnd h]; exact Clo_rnds h n
theorem rnds_clo (l : List S51) : ∀ (n : Nat) (met : List Int), l.length ≤ n + (l.filter (both met)).length → Clo l (rnds l n met)
  | 0, met, h => by
    intro p hp
    have hf : (l.filter (both met)).length = l.length := by have := List.length_filter_le (both met) l; omega
    have := List.length_filter_eq_length_iff.1 hf p hp
    simp only [both, Bool.and_eq_true, decide_eq_true_eq] at this
    exact ⟨fun _ => this.2, fun _ => this.1⟩
  | n + 1, met, h => by
    rcases fold_turn l met with ⟨h1, h2⟩ | ⟨p, hp, h1, h2⟩
    · have hc : Clo l met := h2
      rw [Clo_rnds hc]
      exact hc
    · refine rnds_clo l n (rnd l met) ?_
      have := filter_lt (P := both met) (Q := both (rnd l met)) l (fun x _ hx => by
        simp only [both, Bool.and_eq_true, decide_eq_true_eq] at hx ⊢
        exact ⟨fold_mem l _ hx.1, fold_mem l _ hx.2⟩) ⟨p, hp, h1, h2⟩
      omega
theorem rnds_sound {l : List S51} {a : Int} : ∀ (n : Nat) (met : List Int), (∀ y ∈ met, Rch l a y) → ∀ y ∈ rnds l n met, Rch l a y
  | 0, _, h => h
  | n + 1, met, h => rnds_sound n (rnd l met) (fold_sound l met (fun _ h => h) h)
theorem rnds_mem {l : List S51} {y : Int} : ∀ (n : Nat) (met : List Int), y ∈ met → y ∈ rnds l n met
  | 0, _, h => h
  | n + 1, met, h => rnds_mem n (rnd l met) (fold_mem l met h)
theorem rnds_iff (l : List S51) (a b : Int) (n : Nat) (hn : l.length ≤ n) : b ∈ rnds l n [a] ↔ Rch l a b := by
  constructor
  · exact rnds_sound n [a] (fun y hy => by simp at hy; subst hy; exact Rch.refl) b
  · intro h
    exact Rch.mem (rnds_clo l n [a] (by omega)) (rnds_mem n [a] (by simp)) h
end PL
/-! ### classes: the least number to which each leads -/
namespace PL
theorem rd_set (T : List Int) (a i v : Int) (ha : 0 ≤ a) (hl : a < T.length) (hi : 0 ≤ i) : rd (T.set a.toNat v) i = if i = a then v else rd T i := by
  unfold rd
  rw [List.getD_eq_getElem?_getD, List.getD_eq_getElem?_getD, List.getElem?_set]
  by_cases e : i = a
  · subst e
    rw [if_pos rfl, if_pos (by omega), if_pos rfl]
    rfl
  · rw [if_neg (by omega), if_neg e]
def okT (T : List Int) : Prop := ∀ i : Int, 0 ≤ i → i < T.length → 0 ≤ rd T i ∧ rd T i ≤ i
inductive Rt (T : List Int) : Int → Int → Prop
  | here {i : Int} : rd T i = i → Rt T i i
  | up {i r : Int} : rd T i ≠ i → Rt T (rd T i) r → Rt T i r
theorem Rt.det {T : List Int} {i r s : Int} (h : Rt T i r) (k : Rt T i s) : r = s := by
  induction h generalizing s with
  | here he => cases k with
    | here _ => rfl
    | up hn _ => exact absurd he hn
  | up hn _ ih => cases k with
    | here he => exact absurd he hn
    | up _ k2 => exact ih k2
theorem Rt.total {T : List Int} (hT : okT T) : ∀ (n : Nat) (i : Int), i.toNat ≤ n → 0 ≤ i → i < T.length → ∃ r, Rt T i r ∧ 0 ≤ r ∧ r ≤ i ∧ rd T r = r := by
  intro n
  induction n with
  | zero =>
    intro i hn h0 h1
    have e : i = 0 := by omega
    subst e
    have := hT 0 (by omega) h1
    exact ⟨0, Rt.here (by omega), by omega, by omega, by omega⟩
  | succ n ih =>
    intro i hn h0 h1
    have := hT i h0 h1
    by_cases e : rd T i = i
    · exact ⟨i, Rt.here e, h0, by omega, e⟩
    · obtain ⟨r, h2, h3, h4, h5⟩ := ih (rd T i) (by omega) (by omega) (by omega)
      exact ⟨r, Rt.up e h2, h3, by omega, h5⟩
theorem Rt.root {T : List Int} {i r : Int} (h : Rt T i r) : rd T r = r := by
  induction h with
  | here he => exact he
  | up _ _ ih => exact ih
theorem Rt.le {T : List Int} (hT : okT T) {i r : Int} (h : Rt T i r) (h0 : 0 ≤ i) (h1 : i < T.length) : 0 ≤ r ∧ r ≤ i := by
  obtain ⟨s, h2, h3, h4, _⟩ := Rt.total hT i.toNat i (Nat.le_refl _) h0 h1
  rw [h.det h2]
  exact ⟨h3, h4⟩
theorem Rt.join {T : List Int} (hT : okT T) {M m : Int} (hM : rd T M = M) (hm : rd T m = m) (h0 : 0 ≤ m) (hmM : m ≤ M) (hl : M < T.length) {i r : Int} (h : Rt T i r) (hi : 0 ≤ i) (hi' : i < T.length) :
    Rt (T.set M.toNat m) i (if r = M then m else r) := by
  have rs := fun j hj => rd_set T M j m (by omega) hl hj
  induction h with
  | @here i he =>
    by_cases e : i = M
    · rw [if_pos e]
      by_cases e2 : m = M
      · have em : m = i := by omega
        have hh : Rt (T.set M.toNat m) i i := Rt.here (by rw [rs i hi, if_pos e]; exact em)
        rw [em] at hh ⊢
        exact hh
      · refine Rt.up (by rw [rs i hi, if_pos e]; omega) ?_
        rw [rs i hi, if_pos e]
        exact Rt.here (by rw [rs m h0, if_neg e2]; exact hm)
    · rw [if_neg e]
      exact Rt.here (by rw [rs i hi, if_neg e]; exact he)
  | @up i r hn hr ih =>
    have hne : i ≠ M := fun e => hn (by rw [e]; exact hM)
    have hb := hT i hi hi'
    refine Rt.up (by rw [rs i hi, if_neg hne]; exact hn) ?_
    rw [rs i hi, if_neg hne]
    exact ih hb.1 (by omega)
theorem Rt.short {T : List Int} (hT : okT T) {j s : Int} (hj : Rt T j s) (hj0 : 0 ≤ j) (hj1 : j < T.length) {i r : Int} (h : Rt T i r) (hi : 0 ≤ i) (hi' : i < T.length) : Rt (T.set j.toNat s) i r := by
  have rs := fun k hk => rd_set T j k s hj0 hj1 hk
  induction h with
  | @here i he =>
    refine Rt.here ?_
    rw [rs i hi]
    split
    · rename_i e
      subst e
      exact hj.det (Rt.here he)
    · exact he
  | @up i r hn hr ih =>
    have hb := hT i hi hi'
    by_cases e : i = j
    · subst e
      have e2 : s = r := hj.det (Rt.up hn hr)
      subst e2
      have hle := hr.le hT hb.1 (by omega)
      refine Rt.up (by rw [rs i hi, if_pos rfl]; omega) ?_
      rw [rs i hi, if_pos rfl]
      exact Rt.here (by rw [rs s hle.1, if_neg (by omega)]; exact hj.root)
    · refine Rt.up (by rw [rs i hi, if_neg e]; exact hn) ?_
      rw [rs i hi, if_neg e]
      exact ih hb.1 (by omega)
/-- a pair of numbers below the bound -/
def inr (n : Int) (p : S51) : Bool := decide (0 ≤ p.f0) && decide (p.f0 < n) && (decide (0 ≤ p.f1) && decide (p.f1 < n))
theorem inr_iff (n : Int) (p : S51) : inr n p = true ↔ (0 ≤ p.f0 ∧ p.f0 < n) ∧ 0 ≤ p.f1 ∧ p.f1 < n := by simp [inr]
def lin (n : Int) (l : List S51) : List S51 := l.filter (inr n)
/-- what holds behind some pairs -/
structure Un (n : Int) (l m : List S51) (T : List Int) : Prop where
  len : (T.length : Int) = n
  ok : okT T
  sound : ∀ i r, 0 ≤ i → i < n → Rt T i r → Rch (lin n l) i r
  comp : ∀ p ∈ m, inr n p = true → ∃ r, Rt T p.f0 r ∧ Rt T p.f1 r
theorem Un.skip {n : Int} {l m : List S51} {T : List Int} {p : S51} (h : Un n l m T) (hp : inr n p = false) : Un n l (m ++ [p]) T :=
  ⟨h.len, h.ok, h.sound, fun q hq hi => by
    rcases List.mem_append.1 hq with hq | hq
    · exact h.comp q hq hi
    · simp at hq; subst hq; rw [hp] at hi; cases hi⟩
theorem mx_mn {a b : Int} : (if a < b then b else a) = max a b ∧ (if b < a then b else a) = min a b := by omega
theorem Un.join {n : Int} {l m : List S51} {T : List Int} {p : S51} (h : Un n l m T) (hpl : p ∈ l) (hp : inr n p = true) {a b : Int} (ha : Rt T p.f0 a) (hb : Rt T p.f1 b) : Un n l (m ++ [p]) (T.set (max a b).toNat (min a b)) := by
  obtain ⟨⟨p0, p1⟩, p2, p3⟩ := (inr_iff n p).1 hp
  have hl := h.len
  have la := ha.le h.ok p0 (by omega)
  have lb := hb.le h.ok p2 (by omega)
  have hM : rd T (max a b) = max a b := by
    by_cases e : a ≤ b
    · rw [show max a b = b by omega]; exact hb.root
    · rw [show max a b = a by omega]; exact ha.root
  have hm : rd T (min a b) = min a b := by
    by_cases e : a ≤ b
    · rw [show min a b = a by omega]; exact ha.root
    · rw [show min a b = b by omega]; exact hb.root
  have J : ∀ i r, 0 ≤ i → i < n → Rt T i r → Rt (T.set (max a b).toNat (min a b)) i (if r = max a b then min a b else r) := fun i r h0 h1 hr => hr.join h.ok hM hm (by omega) (by omega) (by omega) h0 (by omega)
  have hpin : p ∈ lin n l := List.mem_filter.2 ⟨hpl, hp⟩
  have hab : Rch (lin n l) a b := by
    refine (h.sound _ _ p0 p1 ha).symm.trans (Rch.trans ?_ (h.sound _ _ p2 p3 hb))
    exact Rch.fwd Rch.refl hpin rfl
  refine ⟨by simp; omega, fun i h0 h1 => ?_, fun i r h0 h1 hr => ?_, fun q hq hi => ?_⟩
  · rw [List.length_set] at h1
    have := h.ok i h0 h1
    rw [rd_set T (max a b) i (min a b) (by omega) (by omega) h0]
    split <;> omega
  · obtain ⟨r0, hr0, _⟩ := Rt.total h.ok i.toNat i (Nat.le_refl _) h0 (by omega)
    have hj := J i r0 h0 h1 hr0
    rw [hr.det hj]
    have hs := h.sound i r0 h0 h1 hr0
    split
    · rename_i e
      refine hs.trans ?_
      rw [e]
      by_cases e2 : a ≤ b
      · rw [show max a b = b by omega, show min a b = a by omega]; exact hab.symm
      · rw [show max a b = a by omega, show min a b = b by omega]; exact hab
    · exact hs
  · rcases List.mem_append.1 hq with hq | hq
    · obtain ⟨r, h1, h2⟩ := h.comp q hq hi
      obtain ⟨⟨q0, q1⟩, q2, q3⟩ := (inr_iff n q).1 hi
      exact ⟨_, J _ _ q0 q1 h1, J _ _ q2 q3 h2⟩
    · simp at hq
      subst hq
      refine ⟨min a b, ?_, ?_⟩
      · have := J _ _ p0 p1 ha
        split at this
        · exact this
        · exact (show a = min a b by omega) ▸ this
      · have := J _ _ p2 p3 hb
        split at this
        · exact this
        · exact (show b = min a b by omega) ▸ this
/-- what the classes are -/
structure Cls (n : Int) (l : List S51) (F : List Int) : Prop where
  len : (F.length : Int) = n
  le : ∀ i, 0 ≤ i → i < n → 0 ≤ rd F i ∧ rd F i ≤ i
  idem : ∀ i, 0 ≤ i → i < n → rd F (rd F i) = rd F i
  sound : ∀ i, 0 ≤ i → i < n → Rch (lin n l) i (rd F i)
  comp : ∀ p ∈ l, inr n p = true → rd F p.f0 = rd F p.f1
theorem Cls.eq {n : Int} {l : List S51} {F : List Int} (h : Cls n l F) {i j : Int} (hr : Rch (lin n l) i j) : rd F i = rd F j := by
  induction hr with
  | refl => rfl
  | @fwd x p _ hp he ih => rw [ih, ← he]; exact h.comp p (List.mem_filter.1 hp).1 (List.mem_filter.1 hp).2
  | @bwd x p _ hp he ih => rw [ih, ← he]; exact (h.comp p (List.mem_filter.1 hp).1 (List.mem_filter.1 hp).2).symm
theorem Cls.iff {n : Int} {l : List S51} {F : List Int} (h : Cls n l F) {i j : Int} (i0 : 0 ≤ i) (i1 : i < n) (j0 : 0 ≤ j) (j1 : j < n) : rd F i = rd F j ↔ Rch (lin n l) i j :=
  ⟨fun e => (h.sound i i0 i1).trans (e ▸ (h.sound j j0 j1).symm), h.eq⟩
/-- the last loop: each number gets its root -/
structure Fin (n : Int) (l : List S51) (T0 T : List Int) (i : Int) : Prop where
  len : (T.length : Int) = n
  ok : okT T
  same : ∀ j r, 0 ≤ j → j < n → Rt T0 j r → Rt T j r
  done : ∀ j r, 0 ≤ j → j < n → j < i → Rt T0 j r → rd T j = r
theorem Fin.step {n : Int} {l : List S51} {T0 T : List Int} {i r : Int} (h0 : (T0.length : Int) = n) (hT0 : okT T0) (h : Fin n l T0 T i) (hi : 0 ≤ i) (hi' : i < n) (hr : Rt T i r) : Fin n l T0 (T.set i.toNat r) (i + 1) := by
  have hl := h.len
  have hle := hr.le h.ok hi (by omega)
  have rs := fun k hk => rd_set T i k r hi (by omega) hk
  refine ⟨by simp; omega, fun j a b => ?_, fun j s a b hs => ?_, fun j s a b c hs => ?_⟩
  · rw [List.length_set] at b
    have := h.ok j a b
    rw [rs j a]
    split <;> omega
  · exact Rt.short h.ok hr hi (by omega) (h.same j s a b hs) a (by omega)
  · rw [rs j a]
    by_cases e : j = i
    · rw [if_pos e]
      subst e
      exact hr.det (h.same j s a b hs)
    · rw [if_neg e]
      exact h.done j s a b (by omega) hs
theorem Fin.cls {n : Int} {l : List S51} {T0 T : List Int} (u : Un n l l T0) (h : Fin n l T0 T n) : Cls n l T := by
  have hl := u.len
  have R : ∀ j, 0 ≤ j → j < n → ∃ r, Rt T0 j r ∧ rd T j = r ∧ 0 ≤ r ∧ r ≤ j ∧ rd T0 r = r := fun j a b => by
    obtain ⟨r, h1, h2, h3, h4⟩ := Rt.total u.ok j.toNat j (Nat.le_refl _) a (by omega)
    exact ⟨r, h1, h.done j r a b b h1, h2, h3, h4⟩
  refine ⟨h.len, fun i a b => ?_, fun i a b => ?_, fun i a b => ?_, fun p hp hi => ?_⟩
  · obtain ⟨r, _, h2, h3, h4, _⟩ := R i a b
    omega
  · obtain ⟨r, h1, h2, h3, h4, h5⟩ := R i a b
    rw [h2]
    exact h.done r r h3 (by omega) (by omega) (Rt.here h5)
  · obtain ⟨r, h1, h2, _⟩ := R i a b
    rw [h2]
    exact u.sound i r a b h1
  · obtain ⟨⟨q0, q1⟩, q2, q3⟩ := (inr_iff n p).1 hi
    obtain ⟨r, h1, h2⟩ := u.comp p hp hi
    rw [h.done _ _ q0 q1 q1 h1, h.done _ _ q2 q3 q3 h2]
theorem Fin.start {n : Int} {l : List S51} {T : List Int} (hl : (T.length : Int) = n) (ho : okT T) : Fin n l T T 0 := ⟨hl, ho, fun _ _ _ _ h => h, fun j _ a _ b _ => by omega⟩
/-! #### the document's: rounds -/
def lst (n : Int) (L : List Int) (p : S51) : List Int := if inr n p = true then (L.set p.f0.toNat (min (rd L p.f0) (rd L p.f1))).set p.f1.toNat (min (rd L p.f0) (rd L p.f1)) else L
def lrd (n : Int) (l : List S51) (L : List Int) : List Int := l.foldl (lst n) L
structure Lab (n : Int) (l : List S51) (L : List Int) : Prop where
  len : (L.length : Int) = n
  le : ∀ i, 0 ≤ i → i < n → 0 ≤ rd L i ∧ rd L i ≤ i
  sound : ∀ i, 0 ≤ i → i < n → Rch (lin n l) i (rd L i)
theorem lst_rd {n : Int} {L : List Int} {p : S51} (hl : (L.length : Int) = n) (hp : inr n p = true) (i : Int) (hi : 0 ≤ i) : rd (lst n L p) i = if i = p.f0 ∨ i = p.f1 then min (rd L p.f0) (rd L p.f1) else rd L i := by
  obtain ⟨⟨q0, q1⟩, q2, q3⟩ := (inr_iff n p).1 hp
  unfold lst
  rw [if_pos hp, rd_set _ _ _ _ q2 (by simp; omega) hi, rd_set _ _ _ _ q0 (by omega) hi]
  by_cases e1 : i = p.f1 <;> by_cases e0 : i = p.f0 <;> simp [e0, e1]
  all_goals omega
theorem Lab.step {n : Int} {l : List S51} {L : List Int} {p : S51} (h : Lab n l L) (hpl : p ∈ l) : Lab n l (lst n L p) ∧ ∀ i, 0 ≤ i → i < n → rd (lst n L p) i ≤ rd L i := by
  by_cases hp : inr n p = true
  · obtain ⟨⟨q0, q1⟩, q2, q3⟩ := (inr_iff n p).1 hp
    have R := lst_rd (p := p) h.len hp
    have l0 := h.le _ q0 q1
    have l1 := h.le _ q2 q3
    have hpin : p ∈ lin n l := List.mem_filter.2 ⟨hpl, hp⟩
    have e01 : Rch (lin n l) p.f0 p.f1 := Rch.fwd Rch.refl hpin rfl
    have s0 := h.sound _ q0 q1
    have s1 := h.sound _ q2 q3
    refine ⟨⟨?_, fun i a b => ?_, fun i a b => ?_⟩, fun i a b => ?_⟩
    · unfold lst; rw [if_pos hp]; simp; exact h.len
    · rw [R i a]
      have := h.le i a b
      split
      · rename_i e
        rcases e with e | e <;> subst e <;> omega
      · exact this
    · rw [R i a]
      have hmin : Rch (lin n l) p.f0 (min (rd L p.f0) (rd L p.f1)) := by
        by_cases e : rd L p.f0 ≤ rd L p.f1
        · rw [show min (rd L p.f0) (rd L p.f1) = rd L p.f0 by omega]; exact s0
        · rw [show min (rd L p.f0) (rd L p.f1) = rd L p.f1 by omega]; exact e01.trans s1
      split
      · rename_i e
        rcases e with e | e
        · rw [e]; exact hmin
        · rw [e]; exact e01.symm.trans hmin
      · exact h.sound i a b
    · rw [R i a]
      split
      · rename_i e
        rcases e with e | e <;> subst e <;> omega
      · omega
  · have e : lst n L p = L := by unfold lst; rw [if_neg hp]
    rw [e]
    exact ⟨h, fun i _ _ => Int.le_refl _⟩
theorem Lab.fold {n : Int} {l : List S51} : ∀ (m : List S51) (L : List Int), (∀ p ∈ m, p ∈ l) → Lab n l L → Lab n l (m.foldl (lst n) L) ∧ ∀ i, 0 ≤ i → i < n → rd (m.foldl (lst n) L) i ≤ rd L i
  | [], L, _, h => ⟨h, fun i _ _ => Int.le_refl _⟩
  | p :: m, L, hm, h => by
    obtain ⟨h1, h2⟩ := h.step (hm p (by simp))
    obtain ⟨h3, h4⟩ := Lab.fold m (lst n L p) (fun q hq => hm q (by simp [hq])) h1
    exact ⟨h3, fun i a b => by have := h2 i a b; have := h4 i a b; simp only [List.foldl_cons]; omega⟩
theorem Lab.ge {n : Int} {l : List S51} {F L : List Int} (hF : Cls n l F) (h : Lab n l L) (i : Int) (a : 0 ≤ i) (b : i < n) : rd F i ≤ rd L i := by
  have h1 := h.le i a b
  rw [hF.eq (h.sound i a b)]
  exact (hF.le _ h1.1 (by omega)).2
theorem Lab.pair {n : Int} {l : List S51} {F L : List Int} (hF : Cls n l F) : ∀ (m : List S51) (L : List Int), (∀ p ∈ m, p ∈ l) → Lab n l L → ∀ p ∈ m, inr n p = true → (rd L p.f0 = rd F p.f0 ∨ rd L p.f1 = rd F p.f1) → rd (m.foldl (lst n) L) p.f0 = rd F p.f0 ∧ rd (m.foldl (lst n) L) p.f1 = rd F p.f1
  | [], _, _, _, p, hp, _, _ => by simp at hp
  | q :: m, L, hm, h, p, hp, hi, hc => by
    obtain ⟨⟨q0, q1⟩, q2, q3⟩ := (inr_iff n p).1 hi
    have hq : q ∈ l := hm q (by simp)
    obtain ⟨h1, h2⟩ := h.step hq
    have hm' : ∀ p ∈ m, p ∈ l := fun x hx => hm x (by simp [hx])
    obtain ⟨h3, h4⟩ := Lab.fold m (lst n L q) hm' h1
    rcases List.mem_cons.1 hp with rfl | hp
    · have R := lst_rd (p := p) h.len hi
      have e := hF.comp p hq hi
      have g0 := h.ge hF _ q0 q1
      have g1 := h.ge hF _ q2 q3
      have r0 := R p.f0 q0
      have r1 := R p.f1 q2
      rw [if_pos (.inl rfl)] at r0
      rw [if_pos (.inr rfl)] at r1
      have a0 := h4 _ q0 q1
      have a1 := h4 _ q2 q3
      have b0 := h3.ge hF _ q0 q1
      have b1 := h3.ge hF _ q2 q3
      simp only [List.foldl_cons]
      omega
    · simp only [List.foldl_cons]
      refine Lab.pair (L := L) hF m (lst n L q) hm' h1 p hp hi ?_
      have g0 := h1.ge hF _ q0 q1
      have g1 := h1.ge hF _ q2 q3
      have a0 := h2 _ q0 q1
      have a1 := h2 _ q2 q3
      omega
def cor (F L : List Int) (i : Nat) : Bool := decide (rd L i = rd F i)
def lrds (n : Int) (l : List S51) : Nat → List Int → List Int
  | 0, L => L
  | k + 1, L => lrds n l k (lrd n l L)
theorem lrds_len {n : Int} {l : List S51} : ∀ (k : Nat) (L : List Int), Lab n l L → Lab n l (lrds n l k L)
  | 0, _, h => h
  | k + 1, L, h => lrds_len k _ (Lab.fold l L (fun _ h => h) h).1
theorem cor_all {n : Int} {l : List S51} {F L : List Int} (hF : Cls n l F) (h : Lab n l L) (hc : ∀ p ∈ l, inr n p = true → (rd L p.f0 = rd F p.f0 ↔ rd L p.f1 = rd F p.f1)) (i : Int) (a : 0 ≤ i) (b : i < n) : rd L i = rd F i := by
  have hl := hF.le i a b
  have h0 : rd L (rd F i) = rd F (rd F i) := by
    have h1 := h.le (rd F i) hl.1 (by omega)
    have h2 := h.ge hF (rd F i) hl.1 (by omega)
    have h3 := hF.idem i a b
    omega
  have hr : Rch (lin n l) (rd F i) i := (hF.sound i a b).symm
  have : ∀ x y, Rch (lin n l) x y → rd L x = rd F x → rd L y = rd F y := by
    intro x y hxy hx
    induction hxy with
    | refl => exact hx
    | @fwd z p _ hp he ih => exact (hc p (List.mem_filter.1 hp).1 (List.mem_filter.1 hp).2).1 (by rw [he]; exact ih)
    | @bwd z p _ hp he ih => exact (hc p (List.mem_filter.1 hp).1 (List.mem_filter.1 hp).2).2 (by rw [he]; exact ih)
  exact this _ _ hr h0
theorem lrds_cor {n : Nat} {l : List S51} {F : List Int} (hF : Cls n l F) : ∀ (k : Nat) (L : List Int), Lab n l L → n ≤ k + ((List.range n).filter (cor F L)).length → ∀ i : Int, 0 ≤ i → i < n → rd (lrds n l k L) i = rd F i
  | 0, L, h, hk, i, a, b => by
    have hf : ((List.range n).filter (cor F L)).length = (List.range n).length := by
      have := List.length_filter_le (cor F L) (List.range n)
      simp at this ⊢
      omega
    have := List.length_filter_eq_length_iff.1 hf i.toNat (by simp; omega)
    simp only [cor, decide_eq_true_eq] at this
    rw [show ((i.toNat : Nat) : Int) = i by omega] at this
    exact this
  | k + 1, L, h, hk, i, a, b => by
    have h1 := (Lab.fold l L (fun _ h => h) h)
    by_cases hc : ∀ p ∈ l, inr n p = true → (rd L p.f0 = rd F p.f0 ↔ rd L p.f1 = rd F p.f1)
    · have hall := cor_all hF h hc
      refine lrds_cor hF k (lrd n l L) h1.1 ?_ i a b
      have : ((List.range n).filter (cor F (lrd n l L))).length = (List.range n).length := by
        refine List.length_filter_eq_length_iff.2 (fun j hj => ?_)
        simp only [cor, decide_eq_true_eq]
        have hj' : j < n := by simpa using hj
        have e1 := hall j (by omega) (by omega)
        have e2 := h1.2 j (by omega) (by omega)
        have e3 := h1.1.ge hF j (by omega) (by omega)
        show rd (l.foldl (lst n) L) j = rd F j
        omega
      simp at this
      omega
    · have hex : ∃ p ∈ l, inr n p = true ∧ ¬ (rd L p.f0 = rd F p.f0 ↔ rd L p.f1 = rd F p.f1) := by
        refine Classical.byContradiction fun hne => hc fun p hp hi => Classical.byContradiction fun hh => hne ⟨p, hp, hi, hh⟩
      obtain ⟨p, hp, hi, hx⟩ := hex
      obtain ⟨⟨q0, q1⟩, q2, q3⟩ := (inr_iff n p).1 hi
      have hor : rd L p.f0 = rd F p.f0 ∨ rd L p.f1 = rd F p.f1 := by
        by_cases e0 : rd L p.f0 = rd F p.f0
        · exact .inl e0
        · by_cases e1 : rd L p.f1 = rd F p.f1
          · exact .inr e1
          · exact absurd ⟨fun h => absurd h e0, fun h => absurd h e1⟩ hx
      have hpair := Lab.pair (L := L) hF l L (fun _ h => h) h p hp hi hor
      refine lrds_cor hF k (lrd n l L) h1.1 ?_ i a b
      have := filter_lt (P := cor F L) (Q := cor F (lrd n l L)) (List.range n) (fun j hj hj1 => by
        have hj' : j < n := by simpa using hj
        simp only [cor, decide_eq_true_eq] at hj1 ⊢
        have e2 := h1.2 j (by omega) (by omega)
        have e3 := h1.1.ge hF j (by omega) (by omega)
        show rd (l.foldl (lst n) L) j = rd F j
        omega) (by
        by_cases e0 : rd L p.f0 = rd F p.f0
        · refine ⟨p.f1.toNat, by simp; omega, ?_, ?_⟩
          · simp only [cor, decide_eq_false_iff_not]
            rw [show ((p.f1.toNat : Nat) : Int) = p.f1 by omega]
            exact fun e1 => hx ⟨fun _ => e1, fun _ => e0⟩
          · simp only [cor, decide_eq_true_eq]
            rw [show ((p.f1.toNat : Nat) : Int) = p.f1 by omega]
            exact hpair.2
        · refine ⟨p.f0.toNat, by simp; omega, ?_, ?_⟩
          · simp only [cor, decide_eq_false_iff_not]
            rw [show ((p.f0.toNat : Nat) : Int) = p.f0 by omega]
            exact e0
          · simp only [cor, decide_eq_true_eq]
            rw [show ((p.f0.toNat : Nat) : Int) = p.f0 by omega]
            exact hpair.1)
      omega
end PL
/-! ### what the printed functions answer -/
theorem wr64 {n : Int} (h1 : -9223372036854775808 ≤ n) (h2 : n ≤ 9223372036854775807) : wrap64 n = n := by unfold wrap64; omega
theorem Ev.ite_pos {α : Type} {c : Prop} [Decidable c] {f g : Nat → Option α} {r : α} (h : c) (k : Ev f r) : Ev (fun n => if c then f n else g n) r := Ev.congr (fun _ => if_pos h) k
theorem Ev.ite_neg {α : Type} {c : Prop} [Decidable c] {f g : Nat → Option α} {r : α} (h : ¬ c) (k : Ev g r) : Ev (fun n => if c then f n else g n) r := Ev.congr (fun _ => if_neg h) k
namespace PL
theorem rdT (l : List S51) (i : Nat) (h : i < l.length) : rd_T51 l (i : Int) = l[i] := by simp [rd_T51, h]
theorem rdI (l : List Int) (i : Nat) (h : i < l.length) : rd l (i : Int) = l[i] := by simp [rd, h]
/-! #### Linked -/
theorem lk_l2 (l : List S51) (b : Int) (r : Bool) (seen op : List Int) (x : Int) (i : Int) (p q : Int) (ho : op.length + 1 < 1000000)
    (h : Ev (fun k => match_Linked.l1 k l b (stp x (stp x (seen, op) ⟨p, q⟩) ⟨q, p⟩).1 (stp x (stp x (seen, op) ⟨p, q⟩) ⟨q, p⟩).2 x (wrap64 (i + 1))) r) :
    Ev (fun k => match_Linked.l2 k l b seen op x i p q 0) r := by
  have h2 : ∀ s : List Int × List Int, Ev (fun k => match_Linked.l1 k l b s.1 s.2 x (wrap64 (i + 1))) r → Ev (fun k => match_Linked.l2 k l b s.1 s.2 x i p q 2) r := fun s hs => by
    refine Ev.step (fun k => ?_) hs
    rw [match_Linked.l2]; rfl
  have h1 : ∀ s : List Int × List Int, s.2.length < 1000000 → Ev (fun k => match_Linked.l1 k l b (stp x s ⟨q, p⟩).1 (stp x s ⟨q, p⟩).2 x (wrap64 (i + 1))) r → Ev (fun k => match_Linked.l2 k l b s.1 s.2 x i p q 1) r := fun s hs hh => by
    refine Ev.step (f := fun k => match_Linked.l2 k l b (stp x s ⟨q, p⟩).1 (stp x s ⟨q, p⟩).2 x i p q 2) (fun k => ?_) (h2 _ hh)
    rw [match_Linked.l2]
    simp only [show (1 : Nat) < 2 by omega, if_true, show ¬ (1 : Nat) = 0 by omega, if_false, stp]
    by_cases e : q = x
    · rw [if_pos (by simp [e]), if_pos e]
      by_cases c : p ∈ s.1
      · rw [if_pos (by simpa using c), if_pos c]
      · rw [if_neg (by simpa using c), if_neg c, if_pos hs]
    · rw [if_neg (by simp [e]), if_neg e]
  refine Ev.step (f := fun k => match_Linked.l2 k l b (stp x (seen, op) ⟨p, q⟩).1 (stp x (seen, op) ⟨p, q⟩).2 x i p q 1) (fun k => ?_) (h1 _ ?_ h)
  · rw [match_Linked.l2]
    simp only [show (0 : Nat) < 2 by omega, if_true, stp]
    by_cases e : p = x
    · rw [if_pos (by simp [e]), if_pos e]
      by_cases c : q ∈ seen
      · rw [if_pos (by simpa using c), if_pos c]
      · rw [if_neg (by simpa using c), if_neg c, if_pos (by omega)]
    · rw [if_neg (by simp [e]), if_neg e]
  · unfold stp
    split
    · split <;> simp <;> omega
    · simp; omega
theorem stp_len (x : Int) (s : List Int × List Int) (q : S51) : (stp x s q).2.length ≤ s.2.length + 1 := by
  unfold stp
  split
  · split <;> simp
  · simp
theorem lk_l1 (l : List S51) (b : Int) (r : Bool) (x : Int) (hl : l.length ≤ 100000) : ∀ (d i : Nat) (seen op : List Int), i + d = l.length → op.length + 2 * d < 1000000 →
    Ev (fun k => match_Linked.l0 k l b (scan x (l.drop i) (seen, op)).1 (scan x (l.drop i) (seen, op)).2) r → Ev (fun k => match_Linked.l1 k l b seen op x (i : Int)) r
  | 0, i, seen, op, hd, _, h => by
    have e : l.drop i = [] := List.drop_eq_nil_of_le (by omega)
    rw [e] at h
    refine Ev.step (fun k => ?_) h
    rw [match_Linked.l1, if_neg (by omega)]
    rfl
  | d + 1, i, seen, op, hd, ho, h => by
    have hi : i < l.length := by omega
    have e : l.drop i = l[i] :: l.drop (i + 1) := List.drop_eq_getElem_cons hi
    rw [e] at h
    have h1 := stp_len x (seen, op) l[i]
    have h2 := stp_len x (stp x (seen, op) l[i]) (swp l[i])
    have ih := lk_l1 l b r x hl d (i + 1) (stp x (stp x (seen, op) l[i]) (swp l[i])).1 (stp x (stp x (seen, op) l[i]) (swp l[i])).2 (by omega) (by simp only at h1; omega) h
    refine Ev.step (f := fun k => match_Linked.l2 k l b seen op x (i : Int) (rd_T51 l (i : Int)).f0 (rd_T51 l (i : Int)).f1 0) (fun k => ?_) (lk_l2 l b r seen op x i _ _ (by omega) ?_)
    · rw [match_Linked.l1, if_pos (by omega), if_pos (by omega)]
    · rw [rdT l i hi, wr64 (by omega) (by omega)]
      exact ih
theorem lk_l0 (l : List S51) (a b : Int) (hl : l.length ≤ 100000) : ∀ (n : Nat) (seen op : List Int), Qi l a b seen op → op.length ≤ seen.length → 1 + 2 * l.length - seen.length + op.length ≤ n →
    ∃ r, Ev (fun k => match_Linked.l0 k l b seen op) r ∧ (r = true ↔ Rch l a b)
  | n, seen, [], hq, _, _ => by
    refine ⟨false, Ev.step (f := fun _ => some false) (fun k => ?_) (Ev.now _), by simp [hq.stop]⟩
    rw [match_Linked.l0, if_neg (by simp)]
  | n, seen, x :: op, hq, ho, hn => by
    have hu := hq.univ
    simp only [List.length_cons] at ho hn
    by_cases hx : x = b
    · refine ⟨true, Ev.step (f := fun _ => some true) (fun k => ?_) (Ev.now _), by simp; rw [← hx]; exact hq.sound x (hq.ops x (by simp))⟩
      rw [match_Linked.l0, if_pos (by simp), if_pos (by simp [rd, hx])]
    · obtain ⟨q1, q2⟩ := hq.step hx
      obtain ⟨n, rfl⟩ : ∃ m, n = m + 1 := ⟨n - 1, by omega⟩
      have hu2 := q1.univ
      obtain ⟨r, hr, hi⟩ := lk_l0 l a b hl n _ _ q1 (by omega) (by omega)
      refine ⟨r, Ev.step (f := fun k => match_Linked.l1 k l b seen op x ((0 : Nat) : Int)) (fun k => ?_) (lk_l1 l b r x hl l.length 0 seen op (by omega) (by omega) (by simpa using hr)), hi⟩
      rw [match_Linked.l0, if_pos (by simp), if_neg (by simp [rd, hx])]
      rfl
theorem linked_ev (l : List S51) (a b : Int) (hl : l.length ≤ 100000) : ∃ r, Ev (fun k => match_Linked.f k l a b) r ∧ (r = true ↔ Rch l a b) := by
  refine lk_l0 l a b hl _ [a] [a] ⟨by simp, fun y hy => by simp at hy; subst hy; exact Rch.refl, fun y hy => hy, fun y hy hn => absurd hy hn, by simp⟩ (Nat.le_refl _) (Nat.le_refl _)
/-! #### Class -/
theorem rt_ev {T : List Int} (hT : okT T) {i r : Int} (h : Rt T i r) : 0 ≤ i → i < T.length → Ev (fun k => match_Class.rt k T i) r := by
  induction h with
  | @here i he =>
    intro h0 h1
    refine Ev.step (f := fun _ => some i) (fun k => ?_) (Ev.now _)
    rw [match_Class.rt, if_pos h0, if_pos h1, if_pos (by simp [he])]
  | @up i r hn _ ih =>
    intro h0 h1
    have hb := hT i h0 h1
    refine Ev.step (f := fun k => match_Class.rt k T (rd T i)) (fun k => ?_) (ih hb.1 (by omega))
    rw [match_Class.rt, if_pos h0, if_pos h1, if_neg (by simp [hn])]
theorem mx_eq (a b : Int) : mx a b = max a b := by unfold mx; omega
theorem mn_eq (a b : Int) : mn a b = min a b := by unfold mn; omega
theorem inN_inr (n : Int) (p : S51) : (inN n p.f0 = true ∧ inN n p.f1 = true) ↔ inr n p = true := by simp [inN, inr]
theorem cl_l2 (n : Int) (l : List S51) (T0 : List Int) (hn : n ≤ 16777216) (h0 : (T0.length : Int) = n) (hT0 : okT T0) (hu : Un n l l T0) : ∀ (d i : Nat) (T : List Int), (i : Int) + d = n → Fin n l T0 T i →
    ∃ F, Ev (fun k => match_Class.l2 k T n (i : Int)) F ∧ Cls n l F
  | 0, i, T, hd, hf => by
    have e : (i : Int) = n := by omega
    refine ⟨T, Ev.step (f := fun _ => some T) (fun k => ?_) (Ev.now _), ?_⟩
    · rw [match_Class.l2, if_neg (by omega)]
    · rw [e] at hf; exact hf.cls hu
  | d + 1, i, T, hd, hf => by
    have hl := hf.len
    obtain ⟨r, hr, h1, h2, _⟩ := Rt.total hf.ok i (i : Int) (by omega) (by omega) (by omega)
    obtain ⟨F, hF, hC⟩ := cl_l2 n l T0 hn h0 hT0 hu d (i + 1) (T.set (i : Int).toNat r) (by omega) (by have := hf.step h0 hT0 (by omega) (by omega) hr; exact this)
    refine ⟨F, Ev.step (fun k => ?_) (Ev.bind (rt_ev hf.ok hr (by omega) (by omega)) (f := fun k a => if 0 ≤ (i : Int) then (if (i : Int) < (T.length : Int) then match_Class.l2 k (T.set (i : Int).toNat a) n (wrap64 ((i : Int) + 1)) else none) else none) ?_), hC⟩
    · rw [match_Class.l2, if_pos (by omega)]
    · refine Ev.ite_pos (by omega) (Ev.ite_pos (by omega) ?_)
      rw [wr64 (by omega) (by omega)]
      exact hF
theorem cl_l1 (n : Int) (l : List S51) (hn0 : 0 ≤ n) (hn : n ≤ 16777216) (hl : l.length ≤ 100000) : ∀ (d i : Nat) (T : List Int), i + d = l.length → Un n l (l.take i) T → ∃ F, Ev (fun k => match_Class.l1 k n l T (i : Int)) F ∧ Cls n l F
  | 0, i, T, hd, hu => by
    rw [List.take_of_length_le (by omega)] at hu
    obtain ⟨F, hF, hC⟩ := cl_l2 n l T hn hu.len hu.ok hu n.toNat 0 T (by omega) (Fin.start hu.len hu.ok)
    refine ⟨F, Ev.step (fun k => ?_) hF, hC⟩
    rw [match_Class.l1, if_neg (by omega), hu.len]
    rfl
  | d + 1, i, T, hd, hu => by
    have hi : i < l.length := by omega
    have hm : l[i] ∈ l := List.getElem_mem hi
    have et : l.take (i + 1) = l.take i ++ [l[i]] := List.take_succ_eq_append_getElem hi
    have hlen := hu.len
    have ew : wrap64 ((i : Int) + 1) = ((i + 1 : Nat) : Int) := by rw [wr64 (by omega) (by omega)]; omega
    by_cases hp : inr n l[i] = true
    · obtain ⟨⟨p0, p1⟩, p2, p3⟩ := (inr_iff n l[i]).1 hp
      obtain ⟨g0, g1⟩ := (inN_inr n l[i]).2 hp
      obtain ⟨a, ha, a1, a2, _⟩ := Rt.total hu.ok l[i].f0.toNat l[i].f0 (Nat.le_refl _) p0 (by omega)
      obtain ⟨b, hb, b1, b2, _⟩ := Rt.total hu.ok l[i].f1.toNat l[i].f1 (Nat.le_refl _) p2 (by omega)
      obtain ⟨F, hF, hC⟩ := cl_l1 n l hn0 hn hl d (i + 1) (T.set (max a b).toNat (min a b)) (by omega) (by rw [et]; exact hu.join hm hp ha hb)
      refine ⟨F, Ev.step (fun k => ?_) (Ev.bind (rt_ev hu.ok ha p0 (by omega)) (f := fun k a => (match_Class.rt k T l[i].f1).bind fun b => if 0 ≤ mx a b then (if mx a b < (T.length : Int) then match_Class.l1 k n l (T.set (mx a b).toNat (mn a b)) (wrap64 ((i : Int) + 1)) else none) else none) (Ev.bind (rt_ev hu.ok hb p2 (by omega)) (f := fun k b => if 0 ≤ mx a b then (if mx a b < (T.length : Int) then match_Class.l1 k n l (T.set (mx a b).toNat (mn a b)) (wrap64 ((i : Int) + 1)) else none) else none) ?_)), hC⟩
      · rw [match_Class.l1, if_pos (by omega), if_pos (by omega), rdT l i hi, if_pos g0, if_pos g1]
      · rw [mx_eq, mn_eq, ew]
        exact Ev.ite_pos (by omega) (Ev.ite_pos (by omega) hF)
    · have hp' : inr n l[i] = false := Bool.eq_false_iff.2 hp
      obtain ⟨F, hF, hC⟩ := cl_l1 n l hn0 hn hl d (i + 1) T (by omega) (by rw [et]; exact hu.skip hp')
      refine ⟨F, Ev.step (fun k => ?_) hF, hC⟩
      rw [match_Class.l1, if_pos (by omega), if_pos (by omega), rdT l i hi, ew]
      by_cases g0 : inN n l[i].f0 = true
      · rw [if_pos g0, if_neg (fun g1 => hp ((inN_inr n l[i]).1 ⟨g0, g1⟩))]
      · rw [if_neg g0]
def up (n : Nat) : List Int := (List.range n).map (fun j : Nat => (j : Int))
theorem up_len (n : Nat) : (up n).length = n := by simp [up]
theorem up_rd (n : Nat) (i : Int) (h0 : 0 ≤ i) (h1 : i < n) : rd (up n) i = i := by
  obtain ⟨j, rfl⟩ : ∃ j : Nat, i = j := ⟨i.toNat, by omega⟩
  rw [rdI (up n) j (by rw [up_len]; omega)]
  simp [up]
theorem up_succ (n : Nat) : up (n + 1) = up n ++ [(n : Int)] := by simp [up, List.range_succ]
theorem up_un (n : Nat) (l : List S51) : Un n l [] (up n) := by
  have ok : okT (up n) := fun i h0 h1 => by rw [up_len] at h1; rw [up_rd n i h0 h1]; omega
  refine ⟨by rw [up_len], ok, fun i r h0 h1 hr => ?_, by simp⟩
  have : Rt (up n) i i := Rt.here (up_rd n i h0 (by omega))
  rw [hr.det this]
  exact Rch.refl
theorem cl_l0 (n : Int) (l : List S51) (m : Nat) (hm : m ≤ 16777216) {r : List Int} (h : Ev (fun k => match_Class.l1 k n l (up m) 0) r) : ∀ (d i : Nat), i + d = m → Ev (fun k => match_Class.l0 k (m : Int) n l (up i) (i : Int)) r
  | 0, i, hd => by
    have e : i = m := by omega
    subst e
    refine Ev.step (fun k => ?_) h
    rw [match_Class.l0, if_neg (by omega)]
  | d + 1, i, hd => by
    have ih := cl_l0 n l m hm h d (i + 1) (by omega)
    refine Ev.step (fun k => ?_) ih
    rw [match_Class.l0, if_pos (by omega), if_pos (by rw [up_len]; omega), wr64 (by omega) (by omega), up_succ]
    rfl
theorem class_ev (n : Int) (l : List S51) (hn : n ≤ 16777216) (hl : l.length ≤ 100000) : ∃ F, Ev (fun k => match_Class.f k n l) F ∧ (0 ≤ n → Cls n l F) ∧ (n < 0 → F = []) := by
  by_cases h0 : 0 ≤ n
  · obtain ⟨m, rfl⟩ : ∃ m : Nat, n = m := ⟨n.toNat, by omega⟩
    obtain ⟨F, hF, hC⟩ := cl_l1 (m : Int) l h0 hn hl l.length 0 (up m) (by omega) (up_un m l)
    refine ⟨F, Ev.congr (fun k => if_neg (by omega)) ?_, fun _ => hC, fun h => by omega⟩
    have := cl_l0 (m : Int) l m (by omega) hF m 0 (by omega)
    rw [mx_eq, show max (m : Int) 0 = m by omega]
    exact this
  · have hb : ∀ p : S51, ¬ inN n p.f0 = true := fun p h => by simp [inN] at h; omega
    have h1 : ∀ (d i : Nat), i + d = l.length → Ev (fun k => match_Class.l1 k n l [] (i : Int)) [] := by
      intro d
      induction d with
      | zero =>
        intro i hd
        refine Ev.step (f := fun k => match_Class.l2 k [] 0 0) (fun k => ?_) (Ev.step (f := fun _ => some []) (fun k => ?_) (Ev.now _))
        · rw [match_Class.l1, if_neg (by omega)]; try rfl
        · rw [match_Class.l2, if_neg (by omega)]
      | succ d ih =>
        intro i hd
        refine Ev.step (fun k => ?_) (ih (i + 1) (by omega))
        rw [match_Class.l1, if_pos (by omega), if_pos (by omega), if_neg (hb _), wr64 (by omega) (by omega)]
        rfl
    refine ⟨[], Ev.congr (fun k => if_neg (by omega)) ?_, fun h => by omega, fun _ => rfl⟩
    have := cl_l0 n l 0 (by omega) (h1 l.length 0 (by omega)) 0 0 rfl
    rw [mx_eq, show max n 0 = 0 by omega]
    exact this
theorem class_great (n : Int) (l : List S51) (hn : 16777216 < n) : Ev (fun k => match_Class.f k n l) [] := Ev.congr (fun k => if_pos (by omega)) (Ev.now _)
/-! ### orielref12_Links: the document's links, by hand -/
def gtP (p : S51) (out : List S51) (kk : Nat) : Bool := match kk with
  | 0 => false
  | j + 1 => ltP p (atP out j)
def back (out : List S51) (p : S51) : Nat → Nat
  | 0 => 0
  | j + 1 => if ltP p (atP out j) = true then back out p j else j + 1
def isP (p : S51) (out : List S51) (kk : Nat) : Bool := p.f0 == p.f1 || (match kk with
  | 0 => false
  | j + 1 => sameP (atP out j) p)
def ins12 (out : List S51) (p : S51) : List S51 := if isP p out (back out p out.length) = true then out else out.take (back out p out.length) ++ [p] ++ out.drop (back out p out.length)
def rlinks (l : List S51) : List S51 := l.foldl (fun out p => ins12 out (nrm p)) []
theorem back_le (out : List S51) (p : S51) : ∀ k, back out p k ≤ k
  | 0 => Nat.le_refl _
  | j + 1 => by
    have := back_le out p j
    unfold back
    split <;> omega
theorem ins12_len (out : List S51) (p : S51) : (ins12 out p).length ≤ out.length + 1 := by
  have := back_le out p out.length
  unfold ins12
  split
  · omega
  · simp; omega
theorem rlinks_take (l : List S51) (i : Nat) (hi : i < l.length) : rlinks (l.take (i + 1)) = ins12 (rlinks (l.take i)) (nrm (rd_T51 l i)) := by
  have e : rd_T51 l i = l[i] := by simp [rd_T51, hi]
  rw [List.take_succ_eq_append_getElem hi, e]
  unfold rlinks
  rw [List.foldl_append]
  rfl
theorem rlinks_len (l : List S51) : (rlinks l).length ≤ l.length := by
  have : ∀ (m : List S51) (out : List S51), (m.foldl (fun out p => ins12 out (nrm p)) out).length ≤ out.length + m.length := by
    intro m
    induction m with
    | nil => intro out; simp
    | cons p m ih =>
      intro out
      have h1 := ih (ins12 out (nrm p))
      have h2 := ins12_len out (nrm p)
      simp only [List.foldl_cons, List.length_cons]
      omega
  have h := this l []
  simpa [rlinks] using h
/-! #### Links -/
theorem sameP_iff (x y : S51) : sameP x y = true ↔ x = y := by
  cases x; cases y
  simp [sameP]
theorem lt_trans' {x y z : S51} (h1 : ltP x y = true) (h2 : ltP y z = true) : ltP x z = true := by
  rw [ltP_iff] at h1 h2 ⊢; omega
theorem lt_irr (x : S51) : ¬ ltP x x = true := by rw [ltP_iff]; omega
theorem lt_of_le_ne {x y : S51} (h1 : leP x y) (h2 : x ≠ y) : ltP x y = true := by
  cases h : ltP x y
  · exact absurd (leP_anti h1 h) h2
  · rfl
def Str (l : List S51) : Prop := l.Pairwise (fun x y => ltP x y = true)
theorem str_one : ∀ a b : List S51, Str a → Str b → (∀ p, p ∈ a ↔ p ∈ b) → a = b
  | [], [], _, _, _ => rfl
  | [], y :: b, _, _, h => absurd ((h y).2 (by simp)) (by simp)
  | x :: a, [], _, _, h => absurd ((h x).1 (by simp)) (by simp)
  | x :: a, y :: b, ha, hb, h => by
    obtain ⟨ha1, ha2⟩ := List.pairwise_cons.1 ha
    obtain ⟨hb1, hb2⟩ := List.pairwise_cons.1 hb
    have e : x = y := by
      rcases List.mem_cons.1 ((h x).1 (by simp)) with e | hx
      · exact e
      · rcases List.mem_cons.1 ((h y).2 (by simp)) with e | hy
        · exact e.symm
        · exact absurd (lt_trans' (ha1 y hy) (hb1 x hx)) (lt_irr x)
    subst e
    rw [str_one a b ha2 hb2 (fun p => ⟨fun hp => by
      rcases List.mem_cons.1 ((h p).1 (by simp [hp])) with e | h1
      · subst e; exact absurd (ha1 p hp) (lt_irr p)
      · exact h1, fun hp => by
      rcases List.mem_cons.1 ((h p).2 (by simp [hp])) with e | h1
      · subst e; exact absurd (hb1 p hp) (lt_irr p)
      · exact h1⟩)]
theorem atP_get (l : List S51) (i : Nat) (h : i < l.length) : atP l i = l[i] := by simp [atP, h]
theorem str_lt {l : List S51} (h : Str l) {i j : Nat} (hij : i < j) (hj : j < l.length) : ltP (atP l i) (atP l j) = true := by
  rw [atP_get l i (by omega), atP_get l j hj]
  exact List.pairwise_iff_getElem.1 h i j (by omega) hj hij
theorem back_at (out : List S51) (p : S51) : ∀ k, (∀ i, back out p k ≤ i → i < k → ltP p (atP out i) = true) ∧ (back out p k = 0 ∨ ltP p (atP out (back out p k - 1)) = false)
  | 0 => ⟨fun i _ h => by omega, .inl rfl⟩
  | j + 1 => by
    obtain ⟨h1, h2⟩ := back_at out p j
    unfold back
    split
    · rename_i h
      refine ⟨fun i a b => ?_, h2⟩
      by_cases e : i = j
      · rw [e]; exact h
      · exact h1 i a (by omega)
    · rename_i h
      exact ⟨fun i a b => by omega, .inr (by rw [Nat.add_sub_cancel]; exact Bool.eq_false_iff.2 h)⟩
theorem mem_take_at {l : List S51} {k : Nat} {x : S51} (h : x ∈ l.take k) : ∃ i, i < k ∧ i < l.length ∧ atP l i = x := by
  obtain ⟨i, hi, e⟩ := List.mem_iff_getElem.1 h
  rw [List.length_take] at hi
  exact ⟨i, by omega, by omega, by rw [atP_get l i (by omega), ← e, List.getElem_take]⟩
theorem mem_drop_at {l : List S51} {k : Nat} {x : S51} (h : x ∈ l.drop k) : ∃ i, k ≤ i ∧ i < l.length ∧ atP l i = x := by
  obtain ⟨i, hi, e⟩ := List.mem_iff_getElem.1 h
  rw [List.length_drop] at hi
  exact ⟨k + i, by omega, by omega, by rw [atP_get l (k + i) (by omega), ← e, List.getElem_drop]⟩
theorem ins12_str {out : List S51} (h : Str out) (p : S51) : Str (ins12 out p) ∧ ∀ q, q ∈ ins12 out p ↔ (q ∈ out ∨ (p.f0 ≠ p.f1 ∧ q = p)) := by
  obtain ⟨h1, h2⟩ := back_at out p out.length
  have hle := back_le out p out.length
  unfold ins12
  generalize hb : back out p out.length = kk at h1 h2 hle ⊢
  cases hP : isP p out kk
  · have hne : p.f0 ≠ p.f1 := by
      intro e
      simp [isP, e] at hP
    have hlast : kk = 0 ∨ ltP (atP out (kk - 1)) p = true := by
      rcases kk with _ | j
      · exact .inl rfl
      · right
        have hs : sameP (atP out j) p = false := by
          simp only [isP, Bool.or_eq_false_iff] at hP
          exact hP.2
        rw [Nat.add_sub_cancel]
        refine lt_of_le_ne ?_ (fun e => by rw [(sameP_iff _ _).2 e] at hs; cases hs)
        rcases h2 with h2 | h2
        · omega
        · exact h2
    have hbefore : ∀ x ∈ out.take kk, ltP x p = true := by
      intro x hx
      obtain ⟨i, hi, hil, e⟩ := mem_take_at hx
      rcases hlast with h0 | hl
      · omega
      · by_cases ei : i = kk - 1
        · rw [← e, ei]; exact hl
        · rw [← e]
          exact lt_trans' (str_lt h (show i < kk - 1 by omega) (by omega)) hl
    have hafter : ∀ x ∈ out.drop kk, ltP p x = true := by
      intro x hx
      obtain ⟨i, hi, hil, e⟩ := mem_drop_at hx
      rw [← e]
      exact h1 i hi hil
    rw [if_neg (by simp)]
    refine ⟨?_, fun q => ?_⟩
    · have ht : Str (out.take kk) := List.Pairwise.sublist (List.take_sublist _ _) h
      have hd : Str (out.drop kk) := List.Pairwise.sublist (List.drop_sublist _ _) h
      refine List.pairwise_append.2 ⟨List.pairwise_append.2 ⟨ht, by simp, fun x hx y hy => ?_⟩, hd, fun x hx y hy => ?_⟩
      · simp at hy; subst hy; exact hbefore x hx
      · rcases List.mem_append.1 hx with hx | hx
        · exact lt_trans' (hbefore x hx) (hafter y hy)
        · simp at hx; subst hx; exact hafter y hy
    · constructor
      · intro hq
        rcases List.mem_append.1 hq with hq | hq
        · rcases List.mem_append.1 hq with hq | hq
          · exact .inl (List.mem_of_mem_take hq)
          · simp at hq; exact .inr ⟨hne, hq⟩
        · exact .inl (List.mem_of_mem_drop hq)
      · rintro (hq | ⟨_, rfl⟩)
        · rw [← List.take_append_drop kk out] at hq
          rcases List.mem_append.1 hq with hq | hq
          · simp [hq]
          · simp [hq]
        · simp
  · rw [if_pos rfl]
    refine ⟨h, fun q => ⟨fun hq => .inl hq, fun hq => ?_⟩⟩
    rcases hq with hq | ⟨hne, rfl⟩
    · exact hq
    · simp only [isP, Bool.or_eq_true, beq_iff_eq] at hP
      rcases hP with hP | hP
      · exact absurd hP hne
      · rcases kk with _ | j
        · cases hP
        · have e := (sameP_iff _ _).1 hP
          rw [atP_get out j (by omega)] at e
          rw [← e]
          exact List.getElem_mem _
theorem nrm_ne (q : S51) : (nrm q).f0 ≠ (nrm q).f1 ↔ q.f0 ≠ q.f1 := by
  unfold nrm
  rw [mn_eq, mx_eq]
  show min q.f0 q.f1 ≠ max q.f0 q.f1 ↔ _
  omega
theorem rlinks_str (l : List S51) : Str (rlinks l) ∧ ∀ q, q ∈ rlinks l ↔ ∃ p ∈ l, p.f0 ≠ p.f1 ∧ q = nrm p := by
  have : ∀ (m : List S51) (out : List S51), Str out → Str (m.foldl (fun out p => ins12 out (nrm p)) out) ∧ ∀ q, q ∈ m.foldl (fun out p => ins12 out (nrm p)) out ↔ (q ∈ out ∨ ∃ p ∈ m, p.f0 ≠ p.f1 ∧ q = nrm p) := by
    intro m
    induction m with
    | nil => intro out h; exact ⟨h, by simp⟩
    | cons p m ih =>
      intro out h
      obtain ⟨h1, h2⟩ := ins12_str h (nrm p)
      obtain ⟨h3, h4⟩ := ih (ins12 out (nrm p)) h1
      refine ⟨h3, fun q => ?_⟩
      rw [List.foldl_cons, h4 q, h2 q, nrm_ne]
      constructor
      · rintro ((h | ⟨h5, h6⟩) | ⟨x, hx, h5, h6⟩)
        · exact .inl h
        · exact .inr ⟨p, by simp, h5, h6⟩
        · exact .inr ⟨x, by simp [hx], h5, h6⟩
      · rintro (h | ⟨x, hx, h5, h6⟩)
        · exact .inl (.inl h)
        · rcases List.mem_cons.1 hx with rfl | hx
          · exact .inl (.inr ⟨h5, h6⟩)
          · exact .inr ⟨x, hx, h5, h6⟩
  obtain ⟨h1, h2⟩ := this l [] List.Pairwise.nil
  exact ⟨h1, fun q => by have := h2 q; simpa [rlinks] using this⟩
theorem nrmL_mem : ∀ (l : List S51) (q : S51), q ∈ nrmL l ↔ ∃ p ∈ l, p.f0 ≠ p.f1 ∧ q = nrm p
  | [], q => by simp [nrmL]
  | p :: l, q => by
    have ih := nrmL_mem l q
    simp only [nrmL]
    by_cases e : p.f0 = p.f1
    · rw [if_pos (by simp [e]), ih]
      constructor
      · rintro ⟨x, hx, h⟩
        exact ⟨x, by simp [hx], h⟩
      · rintro ⟨x, hx, h⟩
        rcases List.mem_cons.1 hx with rfl | hx
        · exact absurd e h.1
        · exact ⟨x, hx, h⟩
    · rw [if_neg (by simp [e]), List.mem_cons, ih]
      constructor
      · rintro (h | ⟨x, hx, h⟩)
        · exact ⟨p, by simp, e, h⟩
        · exact ⟨x, by simp [hx], h⟩
      · rintro ⟨x, hx, h⟩
        rcases List.mem_cons.1 hx with rfl | hx
        · exact .inl h.2
        · exact .inr ⟨x, hx, h⟩
/-- what is left of the first i -/
def dp (xs : List S51) : Nat → List S51
  | 0 => []
  | 1 => [atP xs 0]
  | i + 2 => if sameP (atP xs (i + 1)) (atP xs i) = true then dp xs (i + 1) else dp xs (i + 1) ++ [atP xs (i + 1)]
theorem atP_set (l : List S51) (k i : Nat) (x : S51) (h : k ≠ i) : atP (l.set k x) i = atP l i := by
  simp [atP, h]
theorem cpt_l1 (xs : List S51) (k0 : Nat) : ∀ (d j kk : Nat) (ys : List S51), k0 + j + 1 + d = xs.length → ys.length = xs.length → kk ≤ k0 + j → (∀ i, k0 + j ≤ i → atP ys i = atP xs i) → ys.take kk = dp xs (k0 + j + 1) →
    Ev (fun k => cpt.l1 k ys k0 kk j) (dp xs xs.length)
  | 0, j, kk, ys, hd, hl, hk, hs, ht => by
    refine Ev.step (f := fun _ => some (ys.take kk)) (fun k => ?_) ?_
    · rw [cpt.l1, if_neg (by omega), if_pos (by omega)]
    · rw [ht, show k0 + j + 1 = xs.length by omega]
      exact Ev.now _
  | d + 1, j, kk, ys, hd, hl, hk, hs, ht => by
    have e1 := hs (k0 + j + 1) (by omega)
    have e0 := hs (k0 + j) (by omega)
    have hdp : dp xs (k0 + (j + 1) + 1) = if sameP (atP xs (k0 + j + 1)) (atP xs (k0 + j)) = true then dp xs (k0 + j + 1) else dp xs (k0 + j + 1) ++ [atP xs (k0 + j + 1)] := rfl
    cases hb : sameP (atP xs (k0 + j + 1)) (atP xs (k0 + j))
    · rw [hb, if_neg (by simp)] at hdp
      have ih := cpt_l1 xs k0 d (j + 1) (kk + 1) (ys.set kk (atP xs (k0 + j + 1))) (by omega) (by simp [hl]) (by omega) (fun i hi => by rw [atP_set _ _ _ _ (by omega)]; exact hs i (by omega)) (by
        rw [hdp, List.take_succ_eq_append_getElem (by simp; omega), List.take_set_of_le (Nat.le_refl _), ht]
        simp)
      refine Ev.step (fun k => ?_) ih
      rw [cpt.l1, if_pos (by omega), e1, e0, hb, if_neg (by simp), if_pos (by omega)]
    · rw [hb, if_pos rfl] at hdp
      have ih := cpt_l1 xs k0 d (j + 1) kk ys (by omega) hl (by omega) (fun i hi => hs i (by omega)) (by rw [hdp]; exact ht)
      refine Ev.step (fun k => ?_) ih
      rw [cpt.l1, if_pos (by omega), e1, e0, hb, if_pos rfl]
theorem cpt_l0 (xs : List S51) : ∀ (d j : Nat), j + 1 + d = xs.length → xs.take (j + 1) = dp xs (j + 1) → Ev (fun k => cpt.l0 k xs j) (dp xs xs.length)
  | 0, j, hd, ht => by
    refine Ev.step (f := fun _ => some xs) (fun k => ?_) ?_
    · rw [cpt.l0, if_neg (by omega)]
    · rw [← show j + 1 = xs.length by omega, ← ht, List.take_of_length_le (by omega)]
      exact Ev.now _
  | d + 1, j, hd, ht => by
    have hdp : dp xs (j + 2) = if sameP (atP xs (j + 1)) (atP xs j) = true then dp xs (j + 1) else dp xs (j + 1) ++ [atP xs (j + 1)] := rfl
    cases hb : sameP (atP xs (j + 1)) (atP xs j)
    · rw [hb, if_neg (by simp)] at hdp
      have ih := cpt_l0 xs d (j + 1) (by omega) (by rw [show j + 1 + 1 = j + 2 by omega, hdp, ← ht, show j + 2 = (j + 1) + 1 by omega, List.take_succ_eq_append_getElem (by omega), atP_get xs (j + 1) (by omega)])
      refine Ev.step (fun k => ?_) ih
      rw [cpt.l0, if_pos (by omega), hb, if_neg (by simp)]
    · rw [hb, if_pos rfl] at hdp
      refine Ev.step (fun k => ?_) (cpt_l1 xs (j + 1) d 0 (j + 1) xs (by omega) rfl (by omega) (fun _ _ => rfl) (by rw [ht]; exact hdp.symm))
      rw [cpt.l0, if_pos (by omega), hb, if_pos rfl]
theorem cpt_ev (xs : List S51) : Ev (fun k => cpt.f k xs) (dp xs xs.length) := by
  by_cases h : xs.length < 2
  · refine Ev.congr (fun _ => if_pos h) ?_
    rcases xs with _ | ⟨x, _ | ⟨y, r⟩⟩
    · exact Ev.now _
    · exact Ev.now _
    · simp at h; omega
  · refine Ev.congr (fun _ => if_neg h) (cpt_l0 xs (xs.length - 1) 0 (by omega) ?_)
    rw [List.take_succ_eq_append_getElem (by omega)]
    show [] ++ _ = [atP xs 0]
    rw [atP_get xs 0 (by omega)]
    rfl
theorem dp_str (xs : List S51) (h : xs.Pairwise leP) : ∀ i, i ≤ xs.length → Str (dp xs i) ∧ ∀ q, q ∈ dp xs i ↔ q ∈ xs.take i
  | 0, _ => ⟨List.Pairwise.nil, by simp [dp]⟩
  | 1, hi => by
    refine ⟨by simp [dp, Str], fun q => ?_⟩
    rw [List.take_succ_eq_append_getElem (by omega)]
    simp [dp, atP_get xs 0 (by omega)]
  | i + 2, hi => by
    obtain ⟨h1, h2⟩ := dp_str xs h (i + 1) (by omega)
    have et : xs.take (i + 2) = xs.take (i + 1) ++ [atP xs (i + 1)] := by rw [show i + 2 = (i + 1) + 1 by omega, List.take_succ_eq_append_getElem (by omega), atP_get xs (i + 1) (by omega)]
    unfold dp
    cases hb : sameP (atP xs (i + 1)) (atP xs i)
    · rw [if_neg (by simp)]
      have hne : atP xs i ≠ atP xs (i + 1) := fun e => by rw [(sameP_iff _ _).2 e.symm] at hb; cases hb
      have hle : ∀ a b, a < b → b < xs.length → leP (atP xs a) (atP xs b) := fun a b hab hb => by
        rw [atP_get xs a (by omega), atP_get xs b hb]
        exact List.pairwise_iff_getElem.1 h a b (by omega) hb hab
      have hlt := lt_of_le_ne (hle i (i + 1) (by omega) (by omega)) hne
      refine ⟨List.pairwise_append.2 ⟨h1, by simp, fun x hx y hy => ?_⟩, fun q => by rw [et, List.mem_append, List.mem_append, h2 q]⟩
      simp at hy
      subst hy
      obtain ⟨a, ha, hal, e⟩ := mem_take_at ((h2 x).1 hx)
      by_cases ea : a = i
      · rw [← e, ea]; exact hlt
      · rw [← e]
        have h3 := hle a i (by omega) (by omega)
        unfold leP at h3
        rw [ltP_no] at h3
        rw [ltP_iff] at hlt ⊢
        omega
    · rw [if_pos rfl]
      have e := (sameP_iff _ _).1 hb
      refine ⟨h1, fun q => ?_⟩
      rw [h2 q, et, List.mem_append]
      constructor
      · exact .inl
      · rintro (hq | hq)
        · exact hq
        · simp at hq
          rw [hq, e, List.take_succ_eq_append_getElem (by omega), atP_get xs i (by omega)]
          exact List.mem_append_right _ (List.mem_singleton.2 rfl)
theorem links_ev (l : List S51) (hl : l.length < 1000000) : Ev (fun k => match_Links.f k l) (rlinks l) := by
  refine Ev.congr (fun k => if_pos hl) ?_
  have e : dp (isort (nrmL l)) (isort (nrmL l)).length = rlinks l := by
    obtain ⟨h1, h2⟩ := dp_str (isort (nrmL l)) (isort_sorted _) _ (Nat.le_refl _)
    obtain ⟨h3, h4⟩ := rlinks_str l
    refine str_one _ _ h1 h3 (fun p => ?_)
    rw [h2 p, List.take_length, (isort_perm (nrmL l)).mem_iff, nrmL_mem, h4 p]
  rw [← e]
  exact cpt_ev _
theorem rlinks_len12 (l : List S51) : (rlinks l).length ≤ l.length := rlinks_len l
end PL
theorem alive12_true : oriellaw12_alive.f 60 = some true := by decide +kernel
theorem alive12_ev : Ev (fun k => oriellaw12_alive.f k) true := Ev.of (fun k => oriellaw12_alive.mono k) alive12_true
/-! #### what MatchClasses asks -/
namespace PL
theorem rlinked_iff (l : List S51) (a b : Int) : Rch (rlinks (lin 20 l)) a b ↔ Rch (lin 20 l) a b := by
  obtain ⟨_, h2⟩ := rlinks_str (lin 20 l)
  constructor
  · intro h
    induction h with
    | refl => exact Rch.refl
    | @fwd x q _ hq he ih =>
      obtain ⟨p, hp, _, e⟩ := (h2 q).1 hq
      refine ih.trans ?_
      rw [← he, e]
      unfold nrm
      rw [mn_eq, mx_eq]
      by_cases hc : p.f0 ≤ p.f1
      · show Rch (lin 20 l) (min p.f0 p.f1) (max p.f0 p.f1)
        rw [show min p.f0 p.f1 = p.f0 by omega, show max p.f0 p.f1 = p.f1 by omega]
        exact Rch.fwd Rch.refl hp rfl
      · show Rch (lin 20 l) (min p.f0 p.f1) (max p.f0 p.f1)
        rw [show min p.f0 p.f1 = p.f1 by omega, show max p.f0 p.f1 = p.f0 by omega]
        exact Rch.bwd Rch.refl hp rfl
    | @bwd x q _ hq he ih =>
      obtain ⟨p, hp, _, e⟩ := (h2 q).1 hq
      refine ih.trans ?_
      rw [← he, e]
      unfold nrm
      rw [mn_eq, mx_eq]
      by_cases hc : p.f0 ≤ p.f1
      · show Rch (lin 20 l) (max p.f0 p.f1) (min p.f0 p.f1)
        rw [show min p.f0 p.f1 = p.f0 by omega, show max p.f0 p.f1 = p.f1 by omega]
        exact Rch.bwd Rch.refl hp rfl
      · show Rch (lin 20 l) (max p.f0 p.f1) (min p.f0 p.f1)
        rw [show min p.f0 p.f1 = p.f1 by omega, show max p.f0 p.f1 = p.f0 by omega]
        exact Rch.fwd Rch.refl hp rfl
  · have one : ∀ p ∈ lin 20 l, Rch (rlinks (lin 20 l)) p.f0 p.f1 := by
      intro p hp
      by_cases e : p.f0 = p.f1
      · rw [e]; exact Rch.refl
      · have hq := (h2 (nrm p)).2 ⟨p, hp, e, rfl⟩
        by_cases hc : p.f0 ≤ p.f1
        · have h3 := Rch.fwd (Rch.refl (l := rlinks (lin 20 l)) (a := (nrm p).f0)) hq rfl
          unfold nrm at h3
          rw [mn_eq, mx_eq] at h3
          rw [show min p.f0 p.f1 = p.f0 by omega, show max p.f0 p.f1 = p.f1 by omega] at h3
          exact h3
        · have h3 := Rch.bwd (Rch.refl (l := rlinks (lin 20 l)) (a := (nrm p).f1)) hq rfl
          unfold nrm at h3
          rw [mn_eq, mx_eq] at h3
          rw [show min p.f0 p.f1 = p.f1 by omega, show max p.f0 p.f1 = p.f0 by omega] at h3
          exact h3
    intro h
    induction h with
    | refl => exact Rch.refl
    | @fwd x p _ hp he ih => exact ih.trans (by rw [← he]; exact one p hp)
    | @bwd x p _ hp he ih => exact ih.trans (by rw [← he]; exact (one p hp).symm)
theorem lin_take (l : List S51) (i : Nat) (hi : i < l.length) : lin 20 (l.take (i + 1)) = lin 20 (l.take i) ++ (if inr 20 (rd_T51 l i) = true then [rd_T51 l i] else []) := by
  unfold lin
  rw [List.take_succ_eq_append_getElem hi, List.filter_append, rdT l i hi]
  congr 1
  by_cases h : inr 20 l[i] = true
  · rw [if_pos h, List.filter_cons_of_pos h]; rfl
  · rw [if_neg h, List.filter_cons_of_neg h]; rfl
theorem lin_len (l : List S51) : (lin 20 l).length ≤ l.length := List.length_filter_le _ _
/-- all that the law needs to know ahead -/
theorem know (l : List S51) (a b c : Int) (hl : l.length ≤ 60) (a0 : 0 ≤ a) (a1 : a < 20) (b0 : 0 ≤ b) (b1 : b < 20) :
    ∃ (k : Nat) (F : List Int) (x y z : Bool), match_Class.f k 20 l = some F ∧ match_Links.f k (lin 20 l) = some (rlinks (lin 20 l)) ∧ match_Linked.f k (lin 20 l) a b = some x ∧ match_Linked.f k (lin 20 l) b c = some y ∧ match_Linked.f k (lin 20 l) b a = some x ∧
      match_Linked.f k (lin 20 l) a c = some z ∧ match_Linked.f k (rlinks (lin 20 l)) a b = some x ∧ oriellaw12_alive.f k = some true ∧ F.length = 20 ∧ (0 ≤ rd F a ∧ rd F a ≤ a) ∧ rd F (rd F a) = rd F a ∧ (decide (rd F a = rd F b) = x) ∧ (x = true → y = true → z = true) ∧ (0 ≤ rd F b ∧ rd F b ≤ b) := by
  have hl2 := lin_len l
  have hl3 := rlinks_len (lin 20 l)
  obtain ⟨F, hF, hC, _⟩ := class_ev 20 l (by omega) (by omega)
  have hC := hC (by omega)
  obtain ⟨x, hx, ix⟩ := linked_ev (lin 20 l) a b (by omega)
  obtain ⟨y, hy, iy⟩ := linked_ev (lin 20 l) b c (by omega)
  obtain ⟨x2, hx2, ix2⟩ := linked_ev (lin 20 l) b a (by omega)
  obtain ⟨z, hz, iz⟩ := linked_ev (lin 20 l) a c (by omega)
  obtain ⟨x3, hx3, ix3⟩ := linked_ev (rlinks (lin 20 l)) a b (by omega)
  have e2 : x2 = x := by
    rw [Bool.eq_iff_iff, ix2, ix]
    exact ⟨Rch.symm, Rch.symm⟩
  have e3 : x3 = x := by rw [Bool.eq_iff_iff, ix3, ix]; exact rlinked_iff l a b
  subst e2
  subst e3
  obtain ⟨K1, h1⟩ := hF
  obtain ⟨K2, h2⟩ := links_ev (lin 20 l) (by omega)
  obtain ⟨K3, h3⟩ := hx
  obtain ⟨K4, h4⟩ := hy
  obtain ⟨K5, h5⟩ := hx2
  obtain ⟨K6, h6⟩ := hz
  obtain ⟨K7, h7⟩ := hx3
  obtain ⟨K8, h8⟩ := alive12_ev
  refine ⟨K1 + K2 + K3 + K4 + K5 + K6 + K7 + K8, F, _, y, z, h1 _ (by omega), h2 _ (by omega), h3 _ (by omega), h4 _ (by omega), h5 _ (by omega), h6 _ (by omega), h7 _ (by omega), h8 _ (by omega), by have := hC.len; omega, hC.le a a0 a1, hC.idem a a0 a1, ?_, fun e1 e2 => iz.2 ((ix.1 e1).trans (iy.1 e2)), hC.le b b0 b1⟩
  rw [Bool.eq_iff_iff, decide_eq_true_iff, ix]
  exact hC.iff a0 a1 b0 b1
end PL
end Go.Proofs.Ytjnhdoaceegkoaa.PMc
